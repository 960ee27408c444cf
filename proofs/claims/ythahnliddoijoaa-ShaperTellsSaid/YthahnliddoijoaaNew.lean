/-
  New.
-/
import Derived.Test.YthahnliddoijoaaNext
import Derived.Test.YthahnliddoijoaaShape
namespace Go.Proofs.Ythahnliddoijoaa
open Go.RowKit
def zeroItems : Nat → List Value
  | 0 => []
  | k + 1 => .int .i64 0 :: .int .i64 0 :: .int .i64 0 :: .int .i64 0 :: .slice none 0 0 :: zeroItems k
def qcells (n : Int) : List Value := zeroItems 16 ++ [.int .i64 0, .int .i64 0, .int .i64 n, .int .i64 0]
def qflat (zs : List Int) : List Value := zs.flatMap qcells
theorem qcells_len (n : Int) : (qcells n).length = 84 := rfl
theorem qflat_len (zs : List Int) : (qflat zs).length = zs.length * 84 := by
  induction zs with
  | nil => rfl
  | cons z zs ih => show (qcells z ++ qflat zs).length = _; rw [List.length_append, qcells_len, ih, List.length_cons]; omega
theorem qflat_at (zs : List Int) (i c : Nat) (hi : i < zs.length) (hc : c < 84) : (qflat zs)[i * 84 + c]? = (qcells (zs.getD i 0))[c]? := by
  induction zs generalizing i with
  | nil => simp at hi
  | cons z zs ih =>
    show (qcells z ++ qflat zs)[i * 84 + c]? = _
    cases i with
    | zero => rw [Nat.zero_mul, Nat.zero_add, List.getElem?_append_left (by rw [qcells_len]; exact hc)]; rfl
    | succ i =>
      rw [List.getElem?_append_right (by rw [qcells_len]; omega), qcells_len, show (i + 1) * 84 + c - 84 = i * 84 + c from by omega, ih i (by simp at hi; omega)]
      rfl
theorem qflat_snoc (zs : List Int) (z : Int) : qflat (zs ++ [z]) = qflat zs ++ qcells z := by unfold qflat; rw [List.flatMap_append]; simp
theorem AS.new_at (zs : List Int) (i : Nat) (hi : i < zs.length) : (AS.new zs).at i = ⟨[], zs.getD i 0, 0⟩ := by
  unfold AS.new AS.at
  simp [List.getD_eq_getElem?_getD, List.getElem?_map, hi]
theorem AS.new_len (zs : List Int) : (AS.new zs).qs.length = zs.length := by unfold AS.new; simp
theorem new_sq {w : World} {base : Nat} {v : Value} {zs : List Int} (h : w.ownsRow base 63 84 v zs.length (qflat zs)) (hn : zs.length ≤ 16) :
    ∃ A b cap, v = .slice A zs.length cap ∧ SQ w A b zs.length (AS.new zs) (fun _ _ => undef) ∧ (0 < zs.length → base ≤ b) := by
  obtain ⟨_, h2⟩ := h
  rcases h2 with ⟨rfl, h0⟩ | ⟨g, cap, cur, rfl, hg, hh, hc, hm, hs, ht⟩
  · rw [h0]
    exact ⟨none, 0, 0, rfl, ⟨⟨by omega, by rw [AS.new_len, h0], .inl rfl, fun i hi => by omega⟩, fun k hk => by omega, fun hn => by omega⟩, fun hn => by omega⟩
  · have cell : ∀ i c, i < zs.length → c < 84 → w.cell? ⟨g, i * 84 + c, none⟩ = (qcells (zs.getD i 0))[c]? := fun i c hi hc2 => by
      rw [cell_of_row w g _ _ _ _ hh, ← qflat_at zs i c hi hc2, ← ht, List.getElem?_take, if_pos (by omega), Array.getElem?_toList]
    refine ⟨_, g, cap, rfl, ⟨⟨hn, AS.new_len zs, .inr rfl, fun i hi => ?_⟩, fun k hk => ?_, fun _ k => frozen_of_row w g k _ _ hh⟩, fun _ => hg⟩
    · rw [AS.new_at zs i hi]
      exact ⟨by simp, ⟨0, by omega, cell i 80 hi (by omega), fun j x hx => by simp at hx⟩, cell i 81 hi (by omega), cell i 82 hi (by omega), cell i 83 hi (by omega)⟩
    · rw [cell_of_row w g _ _ _ _ hh, Array.getElem?_eq_getElem (by rw [hs]; have := Nat.mul_le_mul_right 84 hc; omega)]
      rfl
theorem queueInfo : (Try.prog.info? 63).map (fun i => (i.zero, i.size, i.bytes)) = some (some (.agg (qcells 0).toArray), 84, 928) := by kernel_rfl
theorem news_cs (W : World) (t : TypeId) (cs : Array Value) (b : Nat) (hb : b = W.heap.size) : ∀ j v, cs.toList[j]? = some v → (W.alloc (.cells cs t)).cell? ((⟨b, 0, none⟩ : Addr).add j) = some v := by
  subst hb
  exact World.news_of_block (cs := cs) (t := t) (fr := (0, 0)) (heap_alloc_new W _)
theorem own_slice {w : World} {base e size n : Nat} {v : Value} {xs : List Value} (h : w.ownsRow base e size v n xs) : ∃ A cap, v = .slice A n cap := by
  obtain ⟨_, h2⟩ := h
  rcases h2 with ⟨rfl, rfl⟩ | ⟨g, cap, cur, rfl, _⟩
  · exact ⟨none, 0, rfl⟩
  · exact ⟨_, cap, rfl⟩
theorem news_eq (W : World) (t : TypeId) (cs : Array Value) (b : Nat) (L : List Value) (hb : b = W.heap.size) (he : cs.toList = L) : ∀ j v, L[j]? = some v → (W.alloc (.cells cs t)).cell? ((⟨b, 0, none⟩ : Addr).add j) = some v := by
  subst he; exact news_cs W t cs b hb
theorem qcells_one (n : Int) : ∀ u ∈ qcells n, u.oneCell' = true := (List.all_eq_true (p := fun u : Value => u.oneCell')).1 rfl
set_option maxRecDepth 100000 in
set_option maxHeartbeats 2000000 in
theorem new_wrong (A : Option Addr) (n cap : Nat) (zs : List Int) (F : Nat → Prop) (w : World) (hn : n ≤ 9223372036854775807) (h : Hid (Ints w A n zs F)) (hb : Hid ((decide (n ≤ 16) && zs.all bagB) = false)) :
    Calls Try.prog 6 #[.slice A n cap] w fun e w' => e = .returned (.tuple #[.pointer none, .int .i64 2]) ∧ w = w' := by
  have HC := hide (fun w h => contains_noBag A n cap zs F w hn h)
  by_cases hl : n ≤ 16
  · have h2 : zs.any noBagB = true := by
      have := hb.out
      simp only [hl, decide_true, Bool.true_and] at this
      rw [List.all_eq_false] at this
      obtain ⟨x, hx, hx2⟩ := this
      exact List.any_eq_true.2 ⟨x, hx, by unfold noBagB; simpa using hx2⟩
    rw [h2] at HC
    clear hb h2
    go_enter Try.func6, Try.ntmps6
    go_wp2_with (go_at_call 20; refine (HC.out _ h).mono ?_; rintro e w' ⟨rfl, rfl⟩)
    go_ret2
    exact ⟨rfl, rfl⟩
  · clear hb HC
    have hb2 : decide (16 < (n : Int)) = true := by simp; omega
    have hl2 : 16 < (n : Int) := by omega
    go_enter Try.func6, Try.ntmps6
    go_wp2_with fail
    go_ret2
    exact ⟨rfl, rfl⟩
theorem zeroQ (w : World) : (zeroValue 63).run Try.prog w = .ok (.agg (qcells 0).toArray) w := by kernel_rfl
theorem sizeQ : (qcells 0).toArray.size = 84 := by kernel_rfl
set_option maxRecDepth 100000 in
set_option maxHeartbeats 1000000 in
theorem new_fine (A : Option Addr) (n cap : Nat) (zs : List Int) (F : Nat → Prop) (w : World) (h : Hid (Ints w A n zs F)) (hl : n ≤ 16) (hb : Hid (zs.all bagB = true)) :
    Calls Try.prog 6 #[.slice A n cap] w fun e w' => ∃ a P, e = .returned (.tuple #[.pointer (some ⟨a, 0, none⟩), .int .i64 0]) ∧ SAt w' a (AS.new zs) P ∧ (∀ k, P k → w.heap.size ≤ k) ∧ Below w.heap.size w w' := by
  obtain ⟨i0, hi0, hz0, hz1, hz2⟩ := info_parts queueInfo
  have HC := hide (fun w h => contains_noBag A n cap zs F w (by omega) h)
  have h2 : zs.any noBagB = false := by
    rw [List.any_eq_false]
    intro x hx
    have := List.all_eq_true.1 hb.out x hx
    unfold noBagB; simpa using this
  rw [h2] at HC
  clear h2
  go_enter Try.func6, Try.ntmps6
  go_wp2_with (go_at_call 20; refine (HC.out _ h).mono ?_; rintro e w' ⟨rfl, rfl⟩)
  go_loopw [18] (fun v18 wr => ∃ (k : Nat) (v : Value), k ≤ n ∧ v18 = .int .i64 k ∧ wr.heap[w.heap.size]? = some (.cells #[.int .i64 0, v, .bool true] 58 (0, 0)) ∧ wr.ownsRow (w.heap.size + 1) 63 84 v k (qflat (zs.take k)) ∧ Below w.heap.size w wr) (fun v18 _ => n - (intOf v18).toNat)
  case atStart => exact ⟨0, .slice none 0 0, by omega, rfl, heap_alloc_new w _, World.ownsRow_nil _ _ _ _, (Below.refl _ _).alloc (Nat.le_refl _) _⟩
  case round =>
    obtain ⟨k, v, hk, rfl, hbk, hown, hbr⟩ := hrel
    have HOW := hide hown
    have HBR := hide hbr
    have HBK := hide hbk
    have hsz := blk_in hbk
    clear hown hbr hbk
    by_cases hlt : k < n
    · have hiw := h.out.below HBR.out
      obtain ⟨b, off, hA, -⟩ := h.out.2 (by omega)
      subst hA
      have hc := hiw.cell rfl hlt
      have c1 := cell_of_row _ w.heap.size 1 _ _ _ HBK.out
      simp only [List.getElem?_toArray, List.getElem?_cons_succ, List.getElem?_cons_zero] at c1
      have f1 := frozen_of_row _ w.heap.size 1 _ _ HBK.out
      have hk0 : (0 : Int) ≤ (k : Int) := by omega
      have hk1 : (k : Int) < (n : Int) := by omega
      have HST : Hid (qflat (zs.take k) ++ qcells (zs.getD k 0) = qflat (zs.take (k + 1))) := by rw [take_snoc_getD zs k (by rw [h.out.1]; exact hlt), qflat_snoc]; exact rfl
      generalize zs.getD k 0 = z at *
      have HZ0 := hide hz0
      have hzv := zeroQ
      have hzs := sizeQ
      have HZS : Hid ((Value.agg (qcells 0).toArray).cells.size = 84) := rfl
      clear hz0
      go_wp2_with (at_builtin; refine wpList_append_own _ rfl (.tmp 26) (.tmp 29) 56 rfl (w.heap.size + 1) 63 i0 _ 84 928 Try.underlying56 hi0 HZ0.out hz1 hz2 HZS.out (by decide) _ _ _ rfl (HOW.out.alloc _) ⟨wr.heap.size, 0, none⟩ 1 1 (qcells z) rfl (qcells_len z) (news_eq wr _ _ _ (qcells z) rfl ?c1) (qcells_one z) ?c3 ?c4 ?c5 ?_)
      case c1 => kernel_rfl
      case c3 => unfold maxLen; omega
      case c4 => omega
      case c5 => simp; omega
      intro v' w1 hown' hgrow _
      have hown2 : w1.ownsRow (w.heap.size + 1) 63 84 v' (k + 1) (qflat (zs.take (k + 1))) := by rw [← HST.out]; exact hown'
      obtain ⟨A1, cap1, hv1⟩ := own_slice hown2
      subst hv1
      have hvb : ∀ g, v.ownBlock = some g → w.heap.size + 1 ≤ g := fun g hg => (HOW.out.lt g hg).1
      have HG := hide (Below.grown ((Below.refl (w.heap.size + 1) wr).alloc (by omega) _) hgrow (by simp; omega) hvb)
      have HO := hide hown2
      have hb1 := (HG.out.block w.heap.size (by omega)).trans HBK.out
      have HB1 := hide hb1
      clear hown' hown2 hgrow hvb c1 f1
      have c1 := cell_of_row _ w.heap.size 1 _ _ _ hb1
      simp only [List.getElem?_toArray, List.getElem?_cons_succ, List.getElem?_cons_zero] at c1
      have f1 := frozen_of_row _ w.heap.size 1 _ _ hb1
      clear hb1
      go_wp2_with fail
      go_roundw
      case rel => exact ⟨k + 1, _, by omega, by go_num, by
        simp only [World.setCell, Array.getElem?_modify]
        rw [if_pos trivial, HB1.out]
        rfl, ownsRow_setCell_below HO.out (by simp) _, (HBR.out.trans (HG.out.mono (by omega))).setCell (Nat.le_refl _) _⟩
      case measure => simp [intOf]; omega
    · have HE : Hid (zs.take k = zs) := List.take_of_length_le (by rw [h.out.1]; omega)
      have hkn : k = n := by omega
      subst hkn
      go_wp2_with fail
      go_ret2
      obtain ⟨A', b', cap', rfl, hsq, hbb⟩ := new_sq (base := w.heap.size + 1) (zs := zs) (by have := HOW.out; rw [HE.out] at this; rw [h.out.1]; exact this) (by rw [h.out.1]; exact hl)
      refine ⟨w.heap.size, fun k => k = w.heap.size ∨ (0 < zs.length ∧ k = b'), rfl, ⟨A', b', cap', fun _ _ => undef, fun _ _ => 0, ?_, ?_, ?_, ?_, .inl rfl, ?_, ?_, ?_⟩, ?_, HBR.out⟩
      · rw [AS.new_len]; exact HBK.out
      · rw [AS.new_len]; exact hsq
      · intro i j x hi hx; rw [AS.new_len] at hi; rw [AS.new_at zs i hi] at hx; simp at hx
      · intro i j i' j' hi hi' hj hj'; rw [AS.new_len] at hi; rw [AS.new_at zs i hi] at hj; simp at hj
      · intro h0; rw [AS.new_len] at h0; exact ⟨.inr ⟨h0, rfl⟩, by have := hbb h0; omega⟩
      · refine ⟨⟨Int.le_refl _, (by decide : (0 : Int) ≤ 1073741824)⟩, fun i hi => ?_⟩
        rw [AS.new_len] at hi
        rw [AS.new_at zs i hi]
        have := List.all_eq_true.1 hb.out (zs.getD i 0) (by rw [List.getD_eq_getElem?_getD, List.getElem?_eq_getElem hi]; exact List.getElem_mem _)
        unfold bagB at this
        simpa using this
      · intro q hq
        rcases hq with rfl | ⟨h0, rfl⟩
        · exact hsz
        · exact hsq.lt h0
      · intro q hq
        rcases hq with rfl | ⟨h0, rfl⟩
        · exact Nat.le_refl _
        · have := hbb h0; omega
end Go.Proofs.Ythahnliddoijoaa
