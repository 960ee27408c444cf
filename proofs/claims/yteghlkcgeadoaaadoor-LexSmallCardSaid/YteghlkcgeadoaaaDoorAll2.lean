/-
  lex: (*scanner).all: the walk of the iterator.
-/
import Derived.Test.YteghlkcgeadoaaaDoorAll
namespace Go.Proofs.YteghlkcgeadoaaaDoor
open Go.RowKit Go.Shelf
attribute [local go_sem] Oper.semAt_some
theorem one_of {w : World} {x : Nat} {a : Value} {t : TypeId} (h : w.heap[x]? = some (.cells #[a] t (0, 0))) : w.cell? ⟨x, 0, none⟩ = some a ∧ w.frozen? ⟨x, 0, none⟩ = false ∧ x < w.heap.size := by
  have c0 := cell_of_row w x 0 _ _ _ h
  simp only [List.getElem?_toArray, List.getElem?_cons_zero] at c0
  exact ⟨c0, frozen_of_row w x 0 _ _ h, (Array.getElem?_eq_some_iff.1 h).1⟩
theorem skip_its {sb xb lb n₀ j : Nat} {src : ByteArray} {F : Nat → Prop} {g1 g2 g3 : Nat} {k1 k2 k3 : Array Value} {w : World} (h : ItS sb xb lb n₀ src F g1 g2 g3 k1 k2 k3 j w) (hj : j ≤ src.size) (hs : src.size ≤ 1099511627776) :
    Calls Tryd.prog 30 #[.pointer (some ⟨sb, 0, none⟩)] w fun e w' => e = .returned (.tuple #[]) ∧ AtJ sb (skipTo src j) w w' :=
  skip_any sb j src w (hide h.sc.s0) (hide h.here) (hide h.free) hj hs
theorem next_its {sb xb lb n₀ j : Nat} {src : ByteArray} {F : Nat → Prop} {g1 g2 g3 : Nat} {k1 k2 k3 : Array Value} {w : World} (h : ItS sb xb lb n₀ src F g1 g2 g3 k1 k2 k3 j w) (hj : j < src.size) (hs : src.size ≤ 1099511627776) (kd ln er : Nat) (ht : tokN ((toksL src).drop j) = (kd, ln, er)) :
    Calls Tryd.prog 31 #[.pointer (some ⟨sb, 0, none⟩)] w fun e w' => e = .returned (.tuple #[.agg #[.int .u8 (kd : Int), .string (src.extract j (j + ln)), .int .i64 (j : Int)], .int .i64 (er : Int)]) ∧ AtJ sb (j + ln) w w' :=
  next_any sb j src F g1 g2 g3 k1 k2 k3 w h.s4 (hide h.sc) hj hs (hide h.here) (hide h.free) (hide h.env) kd ln er (hide ht)
set_option maxRecDepth 100000 in
set_option maxHeartbeats 4000000 in
theorem all_iter (l sb xb lb n₀ : Nat) (src : ByteArray) (F : Nat → Prop) (g1 g2 g3 : Nat) (k1 k2 k3 : Array Value) (J Jx : List (Tok × Nat) → World → Prop) (W : World) (hI : Hid (ItS sb xb lb n₀ src F g1 g2 g3 k1 k2 k3 0 W)) (hs : src.size ≤ 1099511627776)
    (hT : Hid (∀ s A B, J s A → Kept (fun k => k = sb) A B → J s B))
    (hY : Hid (∀ pre x W1, J pre W1 → pre.length < src.size → pre ++ [x] <+: elsA 0 (toksL src) → YieldAt Fence.wide (4 - 1) Tryd.prog l (encT x) W1 fun e W' =>
      (e = .returned (.bool true) ∧ J (pre ++ [x]) W' ∧ KpL lb n₀ W1 W') ∨ (e = .returned (.bool false) ∧ Jx (pre ++ [x]) W'))) (h0 : Hid (J [] W)) :
    CallsIn Fence.wide 4 Tryd.prog 29 #[.func (.yield l) #[] #[], .pointer (some ⟨xb, 0, none⟩)] W fun e W' => (∃ v, e = .returned v) ∧
      ((∃ xs, xs = elsA 0 (toksL src) ∧ J xs W') ∨ (∃ pre, pre <+: elsA 0 (toksL src) ∧ Jx pre W')) := by
  obtain ⟨b0, bf, bl⟩ := one_of hI.out.box
  refine callsIn_of_wp Tryd.func29 rfl trivial ?_ rfl
  simp only [Tryd.ntmps29, List.size_toArray, List.length_cons, List.length_nil, Nat.reduceAdd, Nat.reduceSub, Array.replicate_succ, Array.replicate_zero, List.push_toArray, List.append_toArray, List.nil_append, List.cons_append]
  gi_wp2_with (first
    | (refine ⟨trivial, ?_⟩; gi_at_call 30; refine (callsIn_wide.2 (skip_its hI.out (Nat.zero_le _) hs)).mono ?_; rintro e w1 ⟨rfl, hJ1⟩; have HJ1 := hide hJ1; clear hJ1))
  have HI1 := hide (hI.out.atJ HJ1.out)
  have HJJ := hide (hT.out _ _ _ h0.out HJ1.out.kept)
  clear b0 bf bl
  gi_loopw [] (fun wr => ∃ j pre, AtE src pre j ∧ J pre wr ∧ ItS sb xb lb n₀ src F g1 g2 g3 k1 k2 k3 j wr) (fun wr => src.size - atOf sb wr)
  case atStart => exact ⟨_, _, AtE.start src, HJJ.out, HI1.out⟩
  case round =>
    obtain ⟨j, pre, hA, hJ, hIt⟩ := hrel
    have HA := hide hA
    have HJ := hide hJ
    have HIt := hide hIt
    obtain ⟨b0, bf, bl⟩ := one_of hIt.box
    have d0 := hIt.sc.s0
    have d1 := hIt.here
    have hj : j ≤ src.size := hA.1
    clear hA hJ hIt HI1 HJJ HJ1
    by_cases hlt : j < src.size
    · obtain ⟨⟨kd, ln, er⟩, ht⟩ : ∃ t, tokN ((toksL src).drop j) = t := ⟨_, rfl⟩
      obtain ⟨e1, e2, e3⟩ := HA.out.step hlt ht
      have HE1 := hide e1
      have HE2 := hide e2
      have HPre : Hid (pre ++ [(⟨kd, ((toksL src).drop j).take ln, j⟩, er)] <+: elsA 0 (toksL src)) := hide (by rw [e1]; exact List.prefix_append _ _)
      have HNx := hide (fun nq => next_its (HIt.out.below (below_drewN (Below.refl _ _) nq)) hlt hs kd ln er ht)
      clear e1 e2 ht
      gi_wp2
      gi_quiet (fail)
      gi_wp2
      refine ⟨trivial, ?_⟩
      refine (callsIn_wide.2 (HNx.out _)).mono ?_
      rintro e w2 ⟨rfl, hJ2⟩
      have HI2 := hide ((HIt.out.below (below_drewN (Below.refl _ _) _)).atJ hJ2)
      have hK : Kept (fun k => k = sb) wr (w2.alloc (.cells #[.int .u8 (kd : Int), .string (src.extract j (j + ln)), .int .i64 (j : Int)] 45)) := ((((Kept.refl _ wr).drewN _).trans hJ2.kept).alloc _)
      have HI3 := hide (HI2.out.below ((Below.refl _ _).alloc (Nat.le_refl _) (.cells #[.int .u8 (kd : Int), .string (src.extract j (j + ln)), .int .i64 (j : Int)] 45)))
      obtain ⟨fn, tmps, assign, body, hy, hRd⟩ := hY.out pre (⟨kd, ((toksL src).drop j).take ln, j⟩, er) _ (hT.out _ _ _ HJ.out hK) (HA.out.len hlt) HPre.out
      dsimp only [encT, Tok.val] at hy
      rw [← extract_list] at hy
      clear hJ2 hK d0 d1
      by_cases her : er = 0
      · have hb0 : ((er : Int) != 0) = false := by simp; omega
        have HE4 := hide (HE2.out her)
        clear her
        gi_wp2
        refine hRd.mono ?_
        rintro e W3 (⟨rfl, hJ3, hk3⟩ | ⟨rfl, hJx3⟩)
        · have HI4 := hide (HI3.out.kp hk3)
          have HJ3 := hide hJ3
          clear hJ3 hk3 hy hRd
          obtain ⟨b0, bf, bl⟩ := one_of HI4.out.box
          gi_wp2
          refine ⟨trivial, ?_⟩
          refine (callsIn_wide.2 (skip_its HI4.out e3 hs)).mono ?_
          rintro e w4 ⟨rfl, hJ4⟩
          have HI5 := hide (HI4.out.atJ hJ4)
          have HJ5 := hide (hT.out _ _ _ HJ3.out hJ4.kept)
          have m2 : atOf sb wr = j := by unfold atOf; rw [HIt.out.here]; simp [intOf]
          have m1 : atOf sb w4 = skipTo src (j + ln) := by unfold atOf; rw [HI5.out.here]; simp [intOf]
          have HM := hide (show src.size - atOf sb w4 < src.size - atOf sb wr by rw [m1, m2]; have := HE4.out.2; omega)
          clear m1 m2 hJ4
          gi_wp2
          go_roundw
          case rel => exact ⟨_, _, HE4.out.1, HJ5.out, HI5.out⟩
          case measure => exact HM.out
        · gi_wp2
          refine bodyPost_ret (results_none rfl _ _ _) rfl ?_
          exact ⟨⟨_, rfl⟩, .inr ⟨_, HPre.out, hJx3⟩⟩
      · have hb0 : ((er : Int) != 0) = true := by simp; omega
        have HFull := hide (show pre ++ [(⟨kd, ((toksL src).drop j).take ln, j⟩, er)] = elsA 0 (toksL src) by rw [HE1.out, if_neg her]; simp)
        clear her
        gi_wp2
        refine hRd.mono ?_
        rintro e W3 (⟨rfl, hJ3, hk3⟩ | ⟨rfl, hJx3⟩)
        · have HJ3 := hide hJ3
          clear hJ3 hk3
          gi_wp2
          refine bodyPost_ret (results_none rfl _ _ _) rfl ?_
          exact ⟨⟨_, rfl⟩, .inl ⟨_, HFull.out, HJ3.out⟩⟩
        · gi_wp2
          refine bodyPost_ret (results_none rfl _ _ _) rfl ?_
          exact ⟨⟨_, rfl⟩, .inr ⟨_, HPre.out, hJx3⟩⟩
    · have HF := hide (HA.out.full (Nat.le_of_not_lt hlt))
      gi_wp2
      gi_quiet (fail)
      gi_wp2
      go_end0
      exact ⟨⟨_, rfl⟩, .inl ⟨_, HF.out, hT.out _ _ _ HJ.out ((Kept.refl _ wr).drewN _)⟩⟩
end Go.Proofs.YteghlkcgeadoaaaDoor
