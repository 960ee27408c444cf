/-
  lex: tests on bytes: between, among, either.
-/
import Derived.Test.YteghlkcgeadoaaaDoorKept
import Derived.Test.YteghlkcgeadoaaaDoorLexM
import Derived.Test.YteghlkcgeadoaaaDoorLater
import Derived.Conc.MuLone
namespace Go.Proofs.YteghlkcgeadoaaaDoor
open Go.RowKit
open Go.MuLone (run_callFunc_enter)
/-- The closure f with what it captured says p of each byte, in every world in which the blocks of F stand as in w. -/
structure IsT (F : Nat → Prop) (w : World) (f : Nat) (caps : Array Value) (p : UInt8 → Bool) : Prop where
  inn : ∀ k, F k → k < w.heap.size
  enters : ∀ (args : Array Value) (W : World), (callFunc f args).run Tryd.prog W = .ok (.enter f args) W
  says : ∀ W : World, (∀ k, F k → W.heap[k]? = w.heap[k]?) → ∀ b : UInt8, Calls Tryd.prog f (#[.int .u8 (b.toNat : Int)] ++ caps) W fun e W' => e = .returned (.bool (p b)) ∧ Below W.heap.size W W'
theorem IsT.keep {F : Nat → Prop} {w w' : World} {f : Nat} {caps : Array Value} {p : UInt8 → Bool} (h : IsT F w f caps p) (hs : w.heap.size ≤ w'.heap.size) (hk : ∀ k, F k → w'.heap[k]? = w.heap[k]?) : IsT F w' f caps p :=
  ⟨fun k hf => Nat.lt_of_lt_of_le (h.inn k hf) hs, h.enters, fun W hW b => h.says W (fun k hf => (hW k hf).trans (hk k hf)) b⟩
theorem IsT.below {F : Nat → Prop} {w w' : World} {f : Nat} {caps : Array Value} {p : UInt8 → Bool} (h : IsT F w f caps p) (hb : Below w.heap.size w w') : IsT F w' f caps p :=
  h.keep hb.size (fun k hf => hb.block k (h.inn k hf))
def btwB (lo hi : Nat) (b : UInt8) : Bool := decide (lo ≤ b.toNat) && decide (b.toNat ≤ hi)
set_option maxRecDepth 100000 in
set_option maxHeartbeats 400000 in
theorem btw_any (lo hi : Nat) (xl xh : Nat) (b : UInt8) (W : World) (h1 : Hid (W.heap[xl]? = some (.cells #[.int .u8 (lo : Int)] 5 (0, 0)))) (h2 : Hid (W.heap[xh]? = some (.cells #[.int .u8 (hi : Int)] 5 (0, 0)))) :
    Calls Tryd.prog 40 #[.int .u8 (b.toNat : Int), .pointer (some ⟨xl, 0, none⟩), .pointer (some ⟨xh, 0, none⟩)] W fun e W' => e = .returned (.bool (btwB lo hi b)) ∧ Below W.heap.size W W' := by
  have c1 := cell_of_row W xl 0 _ _ _ h1.out
  have c2 := cell_of_row W xh 0 _ _ _ h2.out
  simp only [List.getElem?_toArray, List.getElem?_cons_zero] at c1 c2
  have HB : Hid (btwB lo hi b = (decide (lo ≤ b.toNat) && decide (b.toNat ≤ hi))) := rfl
  generalize b.toNat = n at *
  by_cases g1 : lo ≤ n
  · by_cases g2 : n ≤ hi
    · have HR := hide (show btwB lo hi b = true by rw [HB.out]; simp [g1, g2])
      go_enter Tryd.func40, Tryd.ntmps40
      go_wp2_with fail
      go_ret
      exact ⟨by rw [HR.out]; rfl, Below.refl _ _⟩
    · have HR := hide (show btwB lo hi b = false by rw [HB.out]; simp [g2])
      have g2' : decide (n ≤ hi) = false := by simp; omega
      go_enter Tryd.func40, Tryd.ntmps40
      go_wp2_with fail
      go_ret
      exact ⟨by rw [HR.out]; rfl, Below.refl _ _⟩
  · have HR := hide (show btwB lo hi b = false by rw [HB.out]; simp [g1])
    have g1' : decide (lo ≤ n) = false := by simp; omega
    go_enter Tryd.func40, Tryd.ntmps40
    go_wp2_with fail
    go_ret
    exact ⟨by rw [HR.out]; rfl, Below.refl _ _⟩
set_option maxRecDepth 100000 in
set_option maxHeartbeats 400000 in
theorem between_any (lo hi : Nat) (w : World) : Calls Tryd.prog 27 #[.int .u8 (lo : Int), .int .u8 (hi : Int)] w fun e w' => ∃ caps, e = .returned (.func (.func 40) #[] caps) ∧ IsT (fun k => w.heap.size ≤ k ∧ k < w.heap.size + 2) w' 40 caps (btwB lo hi) ∧ Below w.heap.size w w' := by
  have HT : Hid (∀ w' : World, w'.heap[w.heap.size]? = some (.cells #[.int .u8 (lo : Int)] 5 (0, 0)) → w'.heap[w.heap.size + 1]? = some (.cells #[.int .u8 (hi : Int)] 5 (0, 0)) →
      IsT (fun k => w.heap.size ≤ k ∧ k < w.heap.size + 2) w' 40 #[.pointer (some ⟨w.heap.size, 0, none⟩), .pointer (some ⟨w.heap.size + 1, 0, none⟩)] (btwB lo hi)) := by
    intro w' h1 h2
    have hlt := (Array.getElem?_eq_some_iff.1 h2).1
    exact ⟨fun k hk => by omega, fun args W => run_callFunc_enter (c := ((Tryd.f40).body.getD .skip)) Tryd.func40 (by kernel_rfl) (by kernel_rfl) args W, fun W hW b => btw_any lo hi w.heap.size (w.heap.size + 1) b W ((hW _ ⟨by omega, by omega⟩).trans h1) ((hW _ ⟨by omega, by omega⟩).trans h2)⟩
  go_enter Tryd.func27, Tryd.ntmps27
  go_wp2_with fail
  go_ret
  refine ⟨_, rfl, HT.out _ ?_ ?_, ((Below.refl _ _).alloc (Nat.le_refl _) _).alloc (by simp) _⟩
  · exact (Below.heap_alloc _ _ _ (by simp)).trans (heap_alloc_new w _)
  · have := heap_alloc_new (w.alloc (.cells #[.int .u8 (lo : Int)] 5)) (.cells #[.int .u8 (hi : Int)] 5)
    rw [World.size_alloc] at this
    exact this
end Go.Proofs.YteghlkcgeadoaaaDoor
