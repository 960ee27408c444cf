/-
  lex: either.
-/
import Derived.Test.YteghlkcgeadoaaaDoorTest
namespace Go.Proofs.YteghlkcgeadoaaaDoor
open Go.RowKit
open Go.MuLone (run_callFunc_enter)
structure TB where
  f : Nat
  caps : Array Value
  p : UInt8 → Bool
def TB.val (t : TB) : Value := .func (.func t.f) #[] t.caps
def anyT (ts : List TB) (b : UInt8) : Bool := ts.any fun t => t.p b
theorem anyT_take (ts : List TB) (k : Nat) (t : TB) (b : UInt8) (h : ts[k]? = some t) (h0 : anyT (ts.take k) b = false) : anyT (ts.take (k + 1)) b = t.p b := by
  obtain ⟨hk, rfl⟩ := List.getElem?_eq_some_iff.1 h
  unfold anyT at *
  rw [List.take_succ_eq_append_getElem hk, List.any_append, h0]
  simp
theorem anyT_of_take (ts : List TB) (k : Nat) (b : UInt8) (h : anyT (ts.take k) b = true) : anyT ts b = true := by
  unfold anyT at *
  rw [List.any_eq_true] at *
  obtain ⟨t, ht, hp⟩ := h
  exact ⟨t, List.mem_of_mem_take ht, hp⟩
set_option maxRecDepth 100000 in
set_option maxHeartbeats 1000000 in
theorem eitherB_any (xt xs : Nat) (ts : List TB) (F : Nat → Prop) (b : UInt8) (W : World) (hn : ts.length ≤ 100) (h1 : Hid (W.heap[xt]? = some (.cells #[.slice (some ⟨xs, 0, none⟩) ts.length ts.length] 78 (0, 0))))
    (h2 : Hid (W.heap[xs]? = some (.cells (ts.map TB.val).toArray 49 (0, 0)))) (hT : Hid (∀ t ∈ ts, IsT F W t.f t.caps t.p)) :
    Calls Tryd.prog 39 #[.int .u8 (b.toNat : Int), .pointer (some ⟨xt, 0, none⟩)] W fun e W' => e = .returned (.bool (anyT ts b)) ∧ Below W.heap.size W W' := by
  have c1 := cell_of_row W xt 0 _ _ _ h1.out
  simp only [List.getElem?_toArray, List.getElem?_cons_zero] at c1
  obtain ⟨n, hnl⟩ : ∃ n, ts.length = n := ⟨_, rfl⟩
  rw [hnl] at c1 hn
  have HN := hide hnl
  clear hnl
  go_enter Tryd.func39, Tryd.ntmps39
  go_wp2_with fail
  go_loopw [8] (fun v8 wr => ∃ k : Nat, k ≤ n ∧ v8 = .int .i64 k ∧ anyT (ts.take k) b = false ∧ Below W.heap.size W wr) (fun v8 _ => n - (intOf v8).toNat)
  case atStart => exact ⟨0, by omega, rfl, rfl, Below.refl _ _⟩
  case round =>
    obtain ⟨k, hk, rfl, ha, hbr⟩ := hrel
    have HA := hide ha
    have HBR := hide hbr
    clear ha hbr
    by_cases hlt : k < n
    · have hkl : k < ts.length := by rw [HN.out]; exact hlt
      have hx : ts[k]? = some ts[k] := List.getElem?_eq_getElem hkl
      have HS := hide (anyT_take ts k _ b hx HA.out)
      have c2 : wr.cell? ⟨xs, k, none⟩ = some ts[k].val := by
        rw [cell_of_row wr xs k _ _ _ ((HBR.out.block _ (Array.getElem?_eq_some_iff.1 h2.out).1).trans h2.out)]
        simp [hkl]
      have hTk := (hT.out _ (List.getElem_mem hkl)).below HBR.out
      have HC := hide (hTk.says wr (fun _ _ => rfl) b)
      have hen := hTk.enters
      generalize ts[k] = t at *
      obtain ⟨f, caps, p⟩ := t
      unfold TB.val at c2
      simp only at c2 HC HS hen
      clear hx hkl hTk
      have k0 : (0 : Int) ≤ (k : Int) := by omega
      have k1 : (k : Int) < (n : Int) := by omega
      cases hp : p b
      · have HS2 := hide (HS.out.trans hp)
        rw [hp] at HC
        clear hp HS
        go_wp2_with fail
        refine HC.out.mono ?_
        rintro e w1 ⟨rfl, hb1⟩
        have HB1 := hide (HBR.out.trans (hb1.mono HBR.out.size))
        clear hb1
        go_wp2_with fail
        go_roundw
        case rel => exact ⟨k + 1, by omega, by go_num, HS2.out, HB1.out⟩
        case measure => simp [intOf]; omega
      · have HS2 := hide (HS.out.trans hp)
        rw [hp] at HC
        clear hp HS
        have HR := hide (show anyT ts b = true from anyT_of_take ts (k + 1) b HS2.out)
        go_wp2_with fail
        refine HC.out.mono ?_
        rintro e w1 ⟨rfl, hb1⟩
        have HB1 := hide (HBR.out.trans (hb1.mono HBR.out.size))
        clear hb1
        go_wp2_with fail
        go_ret
        exact ⟨by rw [HR.out]; rfl, HB1.out⟩
    · have HR := hide (show anyT ts b = false by have := HA.out; rwa [List.take_of_length_le (by rw [HN.out]; omega)] at this)
      go_wp2_with fail
      go_ret
      exact ⟨by rw [HR.out]; rfl, HBR.out⟩
set_option maxRecDepth 100000 in
set_option maxHeartbeats 400000 in
theorem either_any (xs : Nat) (ts : List TB) (F : Nat → Prop) (w : World) (hn : ts.length ≤ 100) (h2 : Hid (w.heap[xs]? = some (.cells (ts.map TB.val).toArray 49 (0, 0)))) (hT : Hid (∀ t ∈ ts, IsT F w t.f t.caps t.p)) (hF : ∀ k, F k → k < w.heap.size) :
    Calls Tryd.prog 26 #[.slice (some ⟨xs, 0, none⟩) ts.length ts.length] w fun e w' => ∃ caps, e = .returned (.func (.func 39) #[] caps) ∧ IsT (fun k => F k ∨ k = xs ∨ k = w.heap.size) w' 39 caps (anyT ts) ∧ Below w.heap.size w w' := by
  have hxs := (Array.getElem?_eq_some_iff.1 h2.out).1
  have HT : Hid (∀ w' : World, Below w.heap.size w w' → w'.heap[w.heap.size]? = some (.cells #[.slice (some ⟨xs, 0, none⟩) ts.length ts.length] 78 (0, 0)) → IsT (fun k => F k ∨ k = xs ∨ k = w.heap.size) w' 39 #[.pointer (some ⟨w.heap.size, 0, none⟩)] (anyT ts)) := by
    intro w' hb h1
    have hlt := (Array.getElem?_eq_some_iff.1 h1).1
    refine ⟨fun k hk => ?_, fun args W => run_callFunc_enter (c := ((Tryd.f39).body.getD .skip)) Tryd.func39 (by kernel_rfl) (by kernel_rfl) args W, fun W hW b => ?_⟩
    · rcases hk with hk | rfl | rfl
      · exact Nat.lt_of_lt_of_le (hF k hk) hb.size
      · exact Nat.lt_of_lt_of_le hxs hb.size
      · exact hlt
    · refine eitherB_any w.heap.size xs ts F b W hn (hide ((hW _ (.inr (.inr rfl))).trans h1)) (hide ((hW _ (.inr (.inl rfl))).trans ((hb.block _ hxs).trans h2.out))) (hide fun t ht => ?_)
      have h0 := hT.out t ht
      exact ⟨fun k hk => by
        have e1 := hW k (.inl hk)
        have e2 := hb.block k (h0.inn k hk)
        have e3 : w.heap[k]? ≠ none := by rw [ne_eq, Array.getElem?_eq_none_iff]; have := h0.inn k hk; omega
        rcases Nat.lt_or_ge k W.heap.size with hh | hh
        · exact hh
        · rw [Array.getElem?_eq_none hh, e2] at e1; exact absurd e1.symm e3, h0.enters, fun W' hW' b' => h0.says W' (fun k hk => (hW' k hk).trans ((hW k (.inl hk)).trans (hb.block k (h0.inn k hk)))) b'⟩
  go_enter Tryd.func26, Tryd.ntmps26
  go_wp2_with fail
  go_ret
  exact ⟨_, rfl, HT.out _ ((Below.refl _ _).alloc (Nat.le_refl _) _) (heap_alloc_new w _), (Below.refl _ _).alloc (Nat.le_refl _) _⟩
end Go.Proofs.YteghlkcgeadoaaaDoor
