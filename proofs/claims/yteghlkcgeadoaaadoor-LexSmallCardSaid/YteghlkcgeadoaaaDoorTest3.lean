/-
  lex: among.
-/
import Derived.Test.YteghlkcgeadoaaaDoorTest2
import Derived.Test.YteghlkcgeadoaaaDoorShelf
namespace Go.Proofs.YteghlkcgeadoaaaDoor
open Go.RowKit
open Go.MuLone (run_callFunc_enter)
def amgB (s : ByteArray) (b : UInt8) : Bool := s.data.toList.contains b
theorem UInt8.ofNat_toNat' (b : UInt8) : b.toNat.toUInt8 = b := by simp
theorem index_nonneg : ∀ (l : List UInt8) (c : UInt8), (-1 ≤ Lib.indexByte l c) ∧ (decide (0 ≤ Lib.indexByte l c) = l.contains c)
  | [], c => by simp [Lib.indexByte]
  | b :: l, c => by
    obtain ⟨h1, h2⟩ := index_nonneg l c
    unfold Lib.indexByte
    by_cases hb : b == c
    · rw [if_pos hb]
      have : b = c := by simpa using hb
      subst this
      simp
    · rw [if_neg hb]
      have hne : ¬ c = b := fun e => hb (by simp [e])
      have hc : (b :: l).contains c = l.contains c := by simp [hne]
      rw [hc, ← h2]
      by_cases hm : Lib.indexByte l c == -1
      · rw [if_pos hm]
        have : Lib.indexByte l c = -1 := by simpa using hm
        rw [this]; simp
      · rw [if_neg hm]
        have : Lib.indexByte l c ≠ -1 := by simpa using hm
        exact ⟨by omega, by rw [decide_eq_decide]; omega⟩
set_option maxRecDepth 100000 in
set_option maxHeartbeats 400000 in
theorem amg_any (xs : Nat) (s : ByteArray) (b : UInt8) (W : World) (h1 : Hid (W.heap[xs]? = some (.cells #[.string s] 9 (0, 0)))) :
    Calls Tryd.prog 41 #[.int .u8 (b.toNat : Int), .pointer (some ⟨xs, 0, none⟩)] W fun e W' => e = .returned (.bool (amgB s b)) ∧ Below W.heap.size W W' := by
  have c1 := cell_of_row W xs 0 _ _ _ h1.out
  simp only [List.getElem?_toArray, List.getElem?_cons_zero] at c1
  have HI := hide (fun w => Tryd.strings_IndexByte s (b.toNat : Int) w)
  go_enter Tryd.func41, Tryd.ntmps41
  go_wp2_with fail
  refine (HI.out _).mono ?_
  rintro e w' ⟨rfl, rfl⟩
  generalize hx : Lib.indexByte s.data.toList ((b.toNat : Int)).toNat.toUInt8 = x
  have HX := hide (show decide (0 ≤ x) = amgB s b by rw [← hx, (index_nonneg _ _).2, Int.toNat_natCast, UInt8.ofNat_toNat' b]; rfl)
  clear hx
  go_wp2_with fail
  go_ret
  exact ⟨by rw [← HX.out]; rfl, Below.refl _ _⟩
set_option maxRecDepth 100000 in
set_option maxHeartbeats 400000 in
theorem among_any (s : ByteArray) (w : World) : Calls Tryd.prog 28 #[.string s] w fun e w' => ∃ caps, e = .returned (.func (.func 41) #[] caps) ∧ IsT (fun k => k = w.heap.size) w' 41 caps (amgB s) ∧ Below w.heap.size w w' := by
  have HT : Hid (∀ w' : World, w'.heap[w.heap.size]? = some (.cells #[.string s] 9 (0, 0)) → IsT (fun k => k = w.heap.size) w' 41 #[.pointer (some ⟨w.heap.size, 0, none⟩)] (amgB s)) := by
    intro w' h1
    have hlt := (Array.getElem?_eq_some_iff.1 h1).1
    exact ⟨fun k hk => by omega, fun args W => run_callFunc_enter (c := ((Tryd.f41).body.getD .skip)) Tryd.func41 (by kernel_rfl) (by kernel_rfl) args W, fun W hW b => amg_any w.heap.size s b W ((hW _ rfl).trans h1)⟩
  go_enter Tryd.func28, Tryd.ntmps28
  go_wp2_with fail
  go_ret
  exact ⟨_, rfl, HT.out _ (heap_alloc_new w _), (Below.refl _ _).alloc (Nat.le_refl _) _⟩
end Go.Proofs.YteghlkcgeadoaaaDoor
