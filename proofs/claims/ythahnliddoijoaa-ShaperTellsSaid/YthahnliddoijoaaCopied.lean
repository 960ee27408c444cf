/-
  copied: a frame with a payload of its own.
-/
import Derived.Test.YthahnliddoijoaaSet
import Derived.Test.YthahnliddoijoaaAppAny
import Derived.Laws.MakeOwn
import Derived.Laws.CopyOwn
namespace Go.Proofs.Ythahnliddoijoaa
open Go.RowKit
def u8s (bs : List Int) : List Value := bs.map (.int .u8)
def zs8 (n : Nat) : List Value := List.replicate n (.int .u8 0)
theorem u8s_one (bs : List Int) : ∀ v ∈ u8s bs, v.oneCell' = true := by
  intro v hv; unfold u8s at hv; obtain ⟨x, _, rfl⟩ := List.mem_map.1 hv; rfl
theorem made8 (n : Nat) : madeCells (Value.cells (.int .u8 0)) (n * 1) = (zs8 n).toArray := by
  unfold madeCells zs8 Value.cells
  refine Array.ext (by simp) fun i h1 h2 => ?_
  simp [Nat.mod_one]
theorem splice_all (bs : List Int) : splice (zs8 bs.length) 0 (u8s bs) = u8s bs := by
  unfold splice zs8 u8s; simp
theorem u8s_len (bs : List Int) : (u8s bs).length = bs.length := List.length_map _
theorem zs8_len (n : Nat) : (zs8 n).length = n := List.length_replicate
theorem size8 : (Try.prog.info? 5).map (·.size) = some 1 := by kernel_rfl
theorem heap3 (w : World) (a b c : Obj) : (((w.alloc a).alloc b).alloc c).heap[w.heap.size + 2]? = some c := by
  have := heap_alloc_new ((w.alloc a).alloc b) c
  rw [World.size_alloc, World.size_alloc] at this
  exact this
theorem heap2 (w : World) (a b c : Obj) : (((w.alloc a).alloc b).alloc c).heap[w.heap.size + 1]? = some b := by
  have := heap_alloc_new (w.alloc a) b
  rw [World.size_alloc] at this
  exact (Below.heap_alloc _ c _ (by simp)).trans this
theorem heap1 (w : World) (a b c : Obj) : (((w.alloc a).alloc b).alloc c).heap[w.heap.size]? = some a :=
  (Below.heap_alloc _ c _ (by simp; omega)).trans ((Below.heap_alloc _ b _ (by simp)).trans (heap_alloc_new w a))
theorem u8Info : (Try.prog.info? 5).map (fun i => (i.zero, i.size, i.bytes)) = some (some (.int .u8 0), 1, 1) := by kernel_rfl
theorem make8 (dn : Nat) (h : dn ≤ 281474976710656) (W : World) : (Instr.makeSlice 31 (.int .i64 dn) (.int .i64 dn)).run Try.prog W = .ok (.slice (some ⟨W.heap.size, 0, none⟩) dn dn) (W.alloc (.cells (zs8 dn).toArray 5)) := by
  obtain ⟨i0, hi, hz0, hz1, hz2⟩ := info_parts u8Info
  have := run_make (P := Try.prog) W 31 5 i0 (.int .u8 0) Try.underlying31 hi hz0 .i64 .i64 dn dn (by omega) (by omega) (by rw [hz2]; omega) (by omega)
  rw [hz1, Int.toNat_natCast, made8] at this
  exact this
set_option maxRecDepth 100000 in
set_option maxHeartbeats 1000000 in
theorem copied_any (vl net seq : Int) (A : Option Addr) (n cap : Nat) (bs : List Int) (w : World) (hn : n ≤ 281474976710656) (hl : Hid (bs.length = n)) (hr : Hid (Reads w w.heap.size 1 A n (u8s bs))) :
    Calls Try.prog 26 #[.agg #[.int .i64 vl, .int .i64 net, .int .i64 seq, .slice A n cap]] w fun e w' => ∃ g, e = .returned (.agg #[.int .i64 vl, .int .i64 net, .int .i64 seq, .slice (some ⟨g, 0, none⟩) n n]) ∧ w.heap.size ≤ g ∧
      w'.heap[g]? = some (.cells (u8s bs).toArray 5 (0, 0)) ∧ Below w.heap.size w w' := by
  have hmk := make8 n hn
  go_enter Try.func26, Try.ntmps26
  go_wp2_with (with_reducible refine wpList_copy_splice rfl (.tmp 8) (.tmp 10) 31 31 rfl 5 Try.underlying31 size8 _ A n n n cap rfl rfl (w.heap.size + 2) 0 (zs8 n) 5 (heap3 w _ _ _) (u8s bs) (by rw [u8s_len, hl.out]; exact (Nat.min_self n).symm) ?c1 ?c2 (u8s_one bs) (w.heap.size + 2) _ (Below.refl _ _) (Nat.le_refl _) ?_)
  case c1 =>
    intro h0
    obtain ⟨_, hr2⟩ := hr.out
    obtain ⟨ad, hA, had, hc⟩ := hr2 (by rw [u8s_len, hl.out] at h0; exact h0)
    have hbk : ∀ j, (ad.add j).block = ad.block := fun j => by unfold Addr.add; split <;> rfl
    exact ⟨ad, hA, fun j v hv => by rw [World.cell?_alloc_lt _ _ _ (by rw [hbk]; simp; omega), World.cell?_alloc_lt _ _ _ (by rw [hbk]; simp; omega), World.cell?_alloc_lt _ _ _ (by rw [hbk]; exact had)]; exact hc j v hv⟩
  case c2 => rw [u8s_len, hl.out, zs8_len]; omega
  intro w' hg hbel
  have H1 := (hbel.block w.heap.size (by omega)).trans (heap1 w _ _ _)
  have H2 := (hbel.block (w.heap.size + 1) (by omega)).trans (heap2 w _ _ _)
  have HB := hide ((((((Below.refl w.heap.size w).alloc (Nat.le_refl _) (.cells #[.int .i64 vl, .int .i64 net, .int .i64 seq, .slice A n cap] 33)).alloc (by simp) (.cells #[.int .i64 0, .int .i64 0, .int .i64 0, .slice none 0 0] 33)).alloc (by simp; omega) (.cells (zs8 n).toArray 5))).trans (hbel.mono (by omega)))
  have HL := hide (show splice (zs8 n) 0 (u8s bs) = u8s bs by rw [← hl.out]; exact splice_all bs)
  rw [HL.out] at hg
  clear hbel HL hmk
  have x0 := cell_of_row w' w.heap.size 0 _ _ _ H1
  have x1 := cell_of_row w' w.heap.size 1 _ _ _ H1
  have x2 := cell_of_row w' w.heap.size 2 _ _ _ H1
  have x3 := cell_of_row w' w.heap.size 3 _ _ _ H1
  have y0 := cell_of_row w' (w.heap.size + 1) 0 _ _ _ H2
  have y1 := cell_of_row w' (w.heap.size + 1) 1 _ _ _ H2
  have y2 := cell_of_row w' (w.heap.size + 1) 2 _ _ _ H2
  have y3 := cell_of_row w' (w.heap.size + 1) 3 _ _ _ H2
  simp only [List.getElem?_toArray, List.getElem?_cons_succ, List.getElem?_cons_zero] at x0 x1 x2 x3 y0 y1 y2 y3
  have f3 := frozen_of_row w' w.heap.size 3 _ _ H1
  have g0 := frozen_of_row w' (w.heap.size + 1) 0 _ _ H2
  have g1 := frozen_of_row w' (w.heap.size + 1) 1 _ _ H2
  have g2 := frozen_of_row w' (w.heap.size + 1) 2 _ _ H2
  have g3 := frozen_of_row w' (w.heap.size + 1) 3 _ _ H2
  clear H1 H2
  go_wp2_with fail
  refine bodyPost_ret (v := .agg #[.int .i64 vl, .int .i64 net, .int .i64 seq, .slice (some ⟨w.heap.size + 2, 0, none⟩) n n]) (by simp [results, Try.results26, go_sem, y0, y1, y2, y3]) rfl ⟨w.heap.size + 2, rfl, by omega, ?_, ?_⟩
  · rw [Below.heap_setCell _ _ _ _ (by simp), Below.heap_setCell _ _ _ _ (by simp), Below.heap_setCell _ _ _ _ (by simp), Below.heap_setCell _ _ _ _ (by simp), Below.heap_setCell _ _ _ _ (by simp)]
    exact hg.out
  · exact ((((HB.out.setCell (by simp) _).setCell (by simp) _).setCell (by simp) _).setCell (by simp) _).setCell (by simp) _
end Go.Proofs.Ythahnliddoijoaa
