/-
  Merged texts: lex: (*scanner).all: the walk of the iterator. | lex: Lex. | parse: bounds of the lexer's tokens. | parse: the parser's errors are 80 and 81. | nacellekit's Same functions: the plain part.
-/
import Derived.Test.YtndpnpohdoggjaaGreatDoorPk6
import Derived.Test.YtndpnpohdoggjaaGreatDoorPk2
import Derived.OwnWalkIn
import Derived.RangeFuncBox
import Derived.Maps.AppendAt
import Derived.Laws.EntriesVeiled
import Derived.Test.YtndpnpohdoggjaaGreatDoorPk5
import Derived.Test.YtndpnpohdoggjaaGreatDoorPk4
import Derived.Test.YtndpnpohdoggjaaGreatDoorPk1
namespace Go.Proofs.YtndpnpohdoggjaaGreatDoor
open Go.RowKit Go.Shelf
attribute [local go_sem] Oper.semAt_some
theorem one_of {w : World} {x : Nat} {a : Value} {t : TypeId} (h : w.heap[x]? = some (.cells #[a] t (0, 0))) : w.cell? ⟨x, 0, none⟩ = some a ∧ w.frozen? ⟨x, 0, none⟩ = false ∧ x < w.heap.size := by
  have c0 := cell_of_row w x 0 _ _ _ h
  simp only [List.getElem?_toArray, List.getElem?_cons_zero] at c0
  exact ⟨c0, frozen_of_row w x 0 _ _ h, (Array.getElem?_eq_some_iff.1 h).1⟩
theorem skip_its {sb xb lb n₀ j : Nat} {src : ByteArray} {F : Nat → Prop} {g1 g2 g3 : Nat} {k1 k2 k3 : Array Value} {w : World} (h : ItS sb xb lb n₀ src F g1 g2 g3 k1 k2 k3 j w) (hj : j ≤ src.size) (hs : src.size ≤ 1099511627776) :
    Calls Tryz.prog 127 #[.pointer (some ⟨sb, 0, none⟩)] w fun e w' => e = .returned (.tuple #[]) ∧ AtJ sb (skipTo src j) w w' :=
  skip_any sb j src w (hide h.sc.s0) (hide h.here) (hide h.free) hj hs
theorem next_its {sb xb lb n₀ j : Nat} {src : ByteArray} {F : Nat → Prop} {g1 g2 g3 : Nat} {k1 k2 k3 : Array Value} {w : World} (h : ItS sb xb lb n₀ src F g1 g2 g3 k1 k2 k3 j w) (hj : j < src.size) (hs : src.size ≤ 1099511627776) (kd ln er : Nat) (ht : tokN ((toksL src).drop j) = (kd, ln, er)) :
    Calls Tryz.prog 128 #[.pointer (some ⟨sb, 0, none⟩)] w fun e w' => e = .returned (.tuple #[.agg #[.int .u8 (kd : Int), .string (src.extract j (j + ln)), .int .i64 (j : Int)], .int .i64 (er : Int)]) ∧ AtJ sb (j + ln) w w' :=
  next_any sb j src F g1 g2 g3 k1 k2 k3 w h.s4 (hide h.sc) hj hs (hide h.here) (hide h.free) (hide h.env) kd ln er (hide ht)
set_option maxRecDepth 100000 in
set_option maxHeartbeats 4000000 in
theorem all_iter (l sb xb lb n₀ : Nat) (src : ByteArray) (F : Nat → Prop) (g1 g2 g3 : Nat) (k1 k2 k3 : Array Value) (J Jx : List (Tok × Nat) → World → Prop) (W : World) (hI : Hid (ItS sb xb lb n₀ src F g1 g2 g3 k1 k2 k3 0 W)) (hs : src.size ≤ 1099511627776)
    (hT : Hid (∀ s A B, J s A → Kept (fun k => k = sb) A B → J s B))
    (hY : Hid (∀ pre x W1, J pre W1 → pre.length < src.size → pre ++ [x] <+: elsA 0 (toksL src) → YieldAt Fence.wide (4 - 1) Tryz.prog l (encT x) W1 fun e W' =>
      (e = .returned (.bool true) ∧ J (pre ++ [x]) W' ∧ KpL lb n₀ W1 W') ∨ (e = .returned (.bool false) ∧ Jx (pre ++ [x]) W'))) (h0 : Hid (J [] W)) :
    CallsIn Fence.wide 4 Tryz.prog 126 #[.func (.yield l) #[] #[], .pointer (some ⟨xb, 0, none⟩)] W fun e W' => (∃ v, e = .returned v) ∧
      ((∃ xs, xs = elsA 0 (toksL src) ∧ J xs W') ∨ (∃ pre, pre <+: elsA 0 (toksL src) ∧ Jx pre W')) := by
  obtain ⟨b0, bf, bl⟩ := one_of hI.out.box
  refine callsIn_of_wp Tryz.func126 rfl trivial ?_ rfl
  simp only [Tryz.ntmps126, List.size_toArray, List.length_cons, List.length_nil, Nat.reduceAdd, Nat.reduceSub, Array.replicate_succ, Array.replicate_zero, List.push_toArray, List.append_toArray, List.nil_append, List.cons_append]
  gi_wp2_with (first
    | (refine ⟨trivial, ?_⟩; gi_at_call 127; refine (callsIn_wide.2 (skip_its hI.out (Nat.zero_le _) hs)).mono ?_; rintro e w1 ⟨rfl, hJ1⟩; have HJ1 := hide hJ1; clear hJ1))
  have HI1 := hide (hI.out.atJ HJ1.out)
  have HJJ := hide (hT.out _ _ _ h0.out HJ1.out.kept)
  clear b0 bf bl
  gi_loopw [] (fun wr => ∃ j pre, AtE src pre j ∧ J pre wr ∧ ItS sb xb lb n₀ src F g1 g2 g3 k1 k2 k3 j wr) (fun wr => src.size - atOf sb wr)
  case atStart => exact ⟨_, _, AtE.start src, HJJ.out, HI1.out⟩
  case round =>
    obtain ⟨j, pre, hA, hJ, hIt⟩ := hrel
    have HA := hide hA
    have HJ := hide hJ
    have HIt := hide hIt
    obtain ⟨b0, bf, bl⟩ := one_of hIt.box
    have d0 := hIt.sc.s0
    have d1 := hIt.here
    have hj : j ≤ src.size := hA.1
    clear hA hJ hIt HI1 HJJ HJ1
    by_cases hlt : j < src.size
    · obtain ⟨⟨kd, ln, er⟩, ht⟩ : ∃ t, tokN ((toksL src).drop j) = t := ⟨_, rfl⟩
      obtain ⟨e1, e2, e3⟩ := HA.out.step hlt ht
      have HE1 := hide e1
      have HE2 := hide e2
      have HPre : Hid (pre ++ [(⟨kd, ((toksL src).drop j).take ln, j⟩, er)] <+: elsA 0 (toksL src)) := hide (by rw [e1]; exact List.prefix_append _ _)
      have HNx := hide (fun nq => next_its (HIt.out.below (below_drewN (Below.refl _ _) nq)) hlt hs kd ln er ht)
      clear e1 e2 ht
      gi_wp2
      gi_quiet (fail)
      gi_wp2
      refine ⟨trivial, ?_⟩
      refine (callsIn_wide.2 (HNx.out _)).mono ?_
      rintro e w2 ⟨rfl, hJ2⟩
      have HI2 := hide ((HIt.out.below (below_drewN (Below.refl _ _) _)).atJ hJ2)
      have hK : Kept (fun k => k = sb) wr (w2.alloc (.cells #[.int .u8 (kd : Int), .string (src.extract j (j + ln)), .int .i64 (j : Int)] 136)) := ((((Kept.refl _ wr).drewN _).trans hJ2.kept).alloc _)
      have HI3 := hide (HI2.out.below ((Below.refl _ _).alloc (Nat.le_refl _) (.cells #[.int .u8 (kd : Int), .string (src.extract j (j + ln)), .int .i64 (j : Int)] 136)))
      obtain ⟨fn, tmps, assign, body, hy, hRd⟩ := hY.out pre (⟨kd, ((toksL src).drop j).take ln, j⟩, er) _ (hT.out _ _ _ HJ.out hK) (HA.out.len hlt) HPre.out
      dsimp only [encT, Tok.val] at hy
      rw [← extract_list] at hy
      clear hJ2 hK d0 d1
      by_cases her : er = 0
      · have hb0 : ((er : Int) != 0) = false := by simp; omega
        have HE4 := hide (HE2.out her)
        clear her
        gi_wp2
        refine hRd.mono ?_
        rintro e W3 (⟨rfl, hJ3, hk3⟩ | ⟨rfl, hJx3⟩)
        · have HI4 := hide (HI3.out.kp hk3)
          have HJ3 := hide hJ3
          clear hJ3 hk3 hy hRd
          obtain ⟨b0, bf, bl⟩ := one_of HI4.out.box
          gi_wp2
          refine ⟨trivial, ?_⟩
          refine (callsIn_wide.2 (skip_its HI4.out e3 hs)).mono ?_
          rintro e w4 ⟨rfl, hJ4⟩
          have HI5 := hide (HI4.out.atJ hJ4)
          have HJ5 := hide (hT.out _ _ _ HJ3.out hJ4.kept)
          have m2 : atOf sb wr = j := by unfold atOf; rw [HIt.out.here]; simp [intOf]
          have m1 : atOf sb w4 = skipTo src (j + ln) := by unfold atOf; rw [HI5.out.here]; simp [intOf]
          have HM := hide (show src.size - atOf sb w4 < src.size - atOf sb wr by rw [m1, m2]; have := HE4.out.2; omega)
          clear m1 m2 hJ4
          gi_wp2
          go_roundw
          case rel => exact ⟨_, _, HE4.out.1, HJ5.out, HI5.out⟩
          case measure => exact HM.out
        · gi_wp2
          refine bodyPost_ret (results_none rfl _ _ _) rfl ?_
          exact ⟨⟨_, rfl⟩, .inr ⟨_, HPre.out, hJx3⟩⟩
      · have hb0 : ((er : Int) != 0) = true := by simp; omega
        have HFull := hide (show pre ++ [(⟨kd, ((toksL src).drop j).take ln, j⟩, er)] = elsA 0 (toksL src) by rw [HE1.out, if_neg her]; simp)
        clear her
        gi_wp2
        refine hRd.mono ?_
        rintro e W3 (⟨rfl, hJ3, hk3⟩ | ⟨rfl, hJx3⟩)
        · have HJ3 := hide hJ3
          clear hJ3 hk3
          gi_wp2
          refine bodyPost_ret (results_none rfl _ _ _) rfl ?_
          exact ⟨⟨_, rfl⟩, .inl ⟨_, HFull.out, HJ3.out⟩⟩
        · gi_wp2
          refine bodyPost_ret (results_none rfl _ _ _) rfl ?_
          exact ⟨⟨_, rfl⟩, .inr ⟨_, HPre.out, hJx3⟩⟩
    · have HF := hide (HA.out.full (Nat.le_of_not_lt hlt))
      gi_wp2
      gi_quiet (fail)
      gi_wp2
      go_end0
      exact ⟨⟨_, rfl⟩, .inl ⟨_, HF.out, hT.out _ _ _ HJ.out ((Kept.refl _ wr).drewN _)⟩⟩
end Go.Proofs.YtndpnpohdoggjaaGreatDoor
namespace Go.Proofs.YtndpnpohdoggjaaGreatDoor
open Go.RowKit Go.Shelf
attribute [local go_sem] Oper.semAt_some
def toksC (l : List Tok) : List Value := flatT .u8 (l.map Tok.toZ)
theorem all_any (p : Option Addr) (w : World) : Calls Tryz.prog 46 #[.pointer p] w fun e w' => e = .returned (.func (.func 126) #[] #[.pointer (some ⟨w.heap.size, 0, none⟩)]) ∧ w' = w.alloc (.cells #[.pointer p] 123) := by
  go_enter Tryz.func46, Tryz.ntmps46
  have hmf : ∀ (fn : Fn) (first cap : Array Value) (w : World), (Instr.makeFunc fn first cap).run Tryz.prog w = .ok (.func fn first cap) w := fun _ _ _ _ => rfl
  go_wp2
  go_ret
  exact ⟨rfl, rfl⟩
/-- What Lex returns for a source. -/
def lexR (src : List UInt8) : List Tok × Nat × Nat := if 65536 < src.length then ([], 0, 3) else if (lexA 0 src).2.2 = 0 then lexA 0 src else ([], (lexA 0 src).2.1, (lexA 0 src).2.2)
/-- The result of Lex in memory. -/
def LexR (w : World) (src : ByteArray) (e : Ending) (w' : World) : Prop :=
  ∃ v, e = .returned (.tuple #[v, .int .i64 ((lexR src.data.toList).2.1 : Int), .int .i64 ((lexR src.data.toList).2.2 : Int)]) ∧ w'.ownsRow w.heap.size 136 3 v (lexR src.data.toList).1.length (toksC (lexR src.data.toList).1) ∧ ((lexR src.data.toList).1 = [] → v = .slice none 0 0) ∧ Below w.heap.size w w'
set_option maxRecDepth 100000 in
set_option maxHeartbeats 400000 in
theorem lex_long (src : ByteArray) (w : World) (hl : 65536 < src.size) : Calls Tryz.prog 10 #[.string src] w (LexR w src) := by
  have HR : Hid (∀ w', Below w.heap.size w w' → LexR w src (.returned (.tuple #[.slice none 0 0, .int .i64 0, .int .i64 3])) w') := by
    intro w' hb
    have he : lexR src.data.toList = ([], 0, 3) := by unfold lexR; rw [if_pos (by simpa using hl)]
    refine ⟨.slice none 0 0, by rw [he]; rfl, ?_, fun _ => rfl, hb⟩
    rw [he]
    exact ⟨rfl, .inl ⟨rfl, rfl⟩⟩
  go_enter Tryz.func10, Tryz.ntmps10
  go_wp2
  refine bodyPost_ret (v := .tuple #[.slice none 0 0, .int .i64 0, .int .i64 3]) (by simp [results, Tryz.results10, go_sem]) rfl (HR.out _ ?_)
  exact (((Below.refl _ _).alloc (Nat.le_refl _) _).alloc (by simp) _).alloc (by simp; omega) _
theorem mixed : Tryz.prog.follows .mixedOrders = true := by kernel_rfl
theorem alloc3 (w : World) (X Y Z : Obj) : (((w.alloc X).alloc Y).alloc Z).heap[w.heap.size]? = some X ∧ (((w.alloc X).alloc Y).alloc Z).heap[w.heap.size + 1]? = some Y ∧ (((w.alloc X).alloc Y).alloc Z).heap[w.heap.size + 1 + 1]? = some Z ∧
    (((w.alloc X).alloc Y).alloc Z).heap.size = w.heap.size + 3 ∧ Below w.heap.size w (((w.alloc X).alloc Y).alloc Z) := by
  have h1 : (w.alloc X).heap[w.heap.size]? = some X := heap_alloc_new w X
  have h2 : ((w.alloc X).alloc Y).heap[w.heap.size + 1]? = some Y := by have := heap_alloc_new (w.alloc X) Y; rw [World.size_alloc] at this; exact this
  have h3 : (((w.alloc X).alloc Y).alloc Z).heap[w.heap.size + 1 + 1]? = some Z := by have := heap_alloc_new ((w.alloc X).alloc Y) Z; rw [World.size_alloc, World.size_alloc] at this; exact this
  have s : (((w.alloc X).alloc Y).alloc Z).heap.size = w.heap.size + 3 := by simp
  have a1 : ((w.alloc X).alloc Y).heap[w.heap.size]? = some X := (Below.heap_alloc _ _ _ (by simp)).trans h1
  have a2 : (((w.alloc X).alloc Y).alloc Z).heap[w.heap.size]? = some X := (Below.heap_alloc _ _ _ (by simp; omega)).trans a1
  have a3 : (((w.alloc X).alloc Y).alloc Z).heap[w.heap.size + 1]? = some Y := (Below.heap_alloc _ _ _ (by simp)).trans h2
  exact ⟨a2, a3, h3, s, (((Below.refl _ _).alloc (Nat.le_refl _) X).alloc (by simp) Y).alloc (by simp; omega) Z⟩
theorem six_of {w : World} {x : Nat} {a b c d e f : Value} {t : TypeId} (h : w.heap[x]? = some (.cells #[a, b, c, d, e, f] t (0, 0))) : w.cell? ⟨x, 0, none⟩ = some a ∧ w.cell? ⟨x, 1, none⟩ = some b ∧ w.cell? ⟨x, 2, none⟩ = some c ∧
    w.cell? ⟨x, 3, none⟩ = some d ∧ w.cell? ⟨x, 4, none⟩ = some e ∧ w.cell? ⟨x, 5, none⟩ = some f ∧ w.frozen? ⟨x, 1, none⟩ = false ∧ x < w.heap.size := by
  have c0 := cell_of_row w x 0 _ _ _ h
  have c1 := cell_of_row w x 1 _ _ _ h
  have c2 := cell_of_row w x 2 _ _ _ h
  have c3 := cell_of_row w x 3 _ _ _ h
  have c4 := cell_of_row w x 4 _ _ _ h
  have c5 := cell_of_row w x 5 _ _ _ h
  simp only [List.getElem?_toArray, List.getElem?_cons_zero, List.getElem?_cons_succ] at c0 c1 c2 c3 c4 c5
  exact ⟨c0, c1, c2, c3, c4, c5, frozen_of_row w x 1 _ _ h, (Array.getElem?_eq_some_iff.1 h).1⟩
theorem own_kept {w w' : World} {F : Nat → Prop} {base e size n : Nat} {v : Value} {xs : List Value} (h : w.ownsRow base e size v n xs) (k : Kept F w w') (hF : ∀ g, F g → g < base) : w'.ownsRow base e size v n xs := by
  refine ⟨h.1, ?_⟩
  rcases h.2 with hn | ⟨g, cap, cur, hv, hb, hg, rest⟩
  · exact .inl hn
  · exact .inr ⟨g, cap, cur, hv, hb, (k.block g (Array.getElem?_eq_some_iff.1 hg).1 (fun hf => by have := hF g hf; omega)).trans hg, rest⟩
theorem own_wide {w : World} {base base' e size n : Nat} {v : Value} {xs : List Value} (h : w.ownsRow base e size v n xs) (hb : base' ≤ base) : w.ownsRow base' e size v n xs := by
  refine ⟨h.1, ?_⟩
  rcases h.2 with hn | ⟨g, cap, cur, hv, hg0, rest⟩
  · exact .inl hn
  · exact .inr ⟨g, cap, cur, hv, Nat.le_trans hb hg0, rest⟩
theorem Kept.putObj {F : Nat → Prop} (W : World) (l : Nat) (o' : Obj) (hF : F l) : Kept F W (W.putObj l o') :=
  ⟨rfl, rfl, rfl, by simp, fun k _ hf => World.putObj_heap_other (fun e => hf (e ▸ hF))⟩
theorem boxed_kept {w w' : World} {F : Nat → Prop} {B : Nat} {t : TypeId} {v : Value} (h : Boxed w B t v) (k : Kept F w w') (hF : ¬ F B) : Boxed w' B t v := (k.block B h.lt hF).trans h
/-- What the loop of Lex keeps: the tokens so far, and the boxes of the results. -/
structure LexI (w : World) (lb n₀ : Nat) (pre : List (Tok × Nat)) (W : World) : Prop where
  row : ∃ v, Boxed W lb 52 v ∧ W.ownsRow n₀ 136 3 v pre.length (toksC (pre.map (·.1))) ∧ (pre = [] → v = .slice none 0 0)
  r0 : Boxed W w.heap.size 52 (.slice none 0 0)
  r1 : Boxed W (w.heap.size + 1) 3 (.int .i64 0)
  r2 : Boxed W (w.heap.size + 1 + 1) 24 (.int .i64 0)
  below : Below w.heap.size w W
  big : n₀ ≤ W.heap.size
  fine : ∀ y ∈ pre, y.2 = 0
/-- How Lex's loop is left early. -/
structure LexX (w : World) (n₀ : Nat) (c : Code) (pre : List (Tok × Nat)) (W : World) : Prop where
  ret : c = .ret
  last : ∃ pre' x, pre = pre' ++ [x] ∧ x.2 ≠ 0 ∧ Boxed W w.heap.size 52 (.slice none 0 0) ∧ Boxed W (w.heap.size + 1) 3 (.int .i64 (x.1.at_ : Int)) ∧ Boxed W (w.heap.size + 1 + 1) 24 (.int .i64 (x.2 : Int))
  below : Below w.heap.size w W
  big : n₀ ≤ W.heap.size
section
variable {w : World} {lb n₀ : Nat}
theorem LexI.keep {F : Nat → Prop} {pre : List (Tok × Nat)} {A B : World} (h : LexI w lb n₀ pre A) (k : Kept F A B) (h1 : ∀ i, i ≤ w.heap.size + 1 + 1 → ¬ F i) (h2 : ¬ F lb) (h3 : ∀ v, A.ownsRow n₀ 136 3 v pre.length (toksC (pre.map (·.1))) → B.ownsRow n₀ 136 3 v pre.length (toksC (pre.map (·.1)))) : LexI w lb n₀ pre B := by
  obtain ⟨v, hv, ho, hn⟩ := h.row
  exact ⟨⟨v, boxed_kept hv k h2, h3 v ho, hn⟩, boxed_kept h.r0 k (h1 _ (by omega)), boxed_kept h.r1 k (h1 _ (by omega)), boxed_kept h.r2 k (h1 _ (by omega)), h.below.trans (k.below h.below.size (fun i hi => h1 i (by omega))), Nat.le_trans h.big k.size, h.fine⟩
theorem LexI.own (hn : w.heap.size + 3 ≤ n₀) (hlb : lb < n₀) : OwnFrom n₀ (LexI w lb n₀) := fun pre A B row hs hg hr => by
  have hk : Kept (fun k => row = some k) A B := ⟨hg.os, hg.tape, hg.output, hg.size, fun k hk hf => hg.block k hk (fun e => hf e.symm)⟩
  refine hs.keep hk (fun i hi e => by have := (hr i e).1; omega) (fun e => by have := (hr lb e).1; omega) (fun v ho => ho.kept hg ?_)
  rcases ho.2 with ⟨rfl, _⟩ | ⟨g, cap, cur, rfl, _, hgb, _⟩
  · exact .inl rfl
  · refine .inr fun e' => ?_
    obtain ⟨o, ho, hc⟩ := (hr g (by simpa [Value.ownBlock] using e'.symm)).2
    rw [hgb] at ho; cases ho; cases hc
theorem LexI.state {sb : Nat} (h0 : w.heap.size + 1 + 1 < sb) (h1 : sb ≠ lb) (h2 : sb < n₀) {pre : List (Tok × Nat)} {A B : World} (h : LexI w lb n₀ pre A) (k : Kept (fun k => k = sb) A B) : LexI w lb n₀ pre B :=
  h.keep k (fun i hi e => by omega) (fun e => h1 e.symm) (fun v ho => own_kept ho k (fun g hg => by omega))
theorem LexI.append (h0 : w.heap.size + 1 + 1 < lb) (h1 : lb < n₀) {pre : List (Tok × Nat)} {x : Tok × Nat} {W w3 : World} {tmp : Obj} {v v' : Value} (HI : LexI w lb n₀ pre W) (hx : x.2 = 0) (hv : Boxed W lb 52 v) (ho : W.ownsRow n₀ 136 3 v pre.length (toksC (pre.map (·.1))))
    (hown : w3.ownsRow n₀ 136 3 v' (pre.length + 1) (toksC (pre.map (·.1)) ++ x.1.toZ.cells .u8)) (hg : (W.alloc tmp).grownBy w3 v.ownBlock) :
    Boxed w3 lb 52 v ∧ KeepsFrom n₀ W (w3.setCell ⟨lb, 0, none⟩ v') ∧ KpL lb n₀ W (w3.setCell ⟨lb, 0, none⟩ v') ∧ LexI w lb n₀ (pre ++ [x]) (w3.setCell ⟨lb, 0, none⟩ v') := by
  have hrow : ∀ g, v.ownBlock = some g → n₀ ≤ g := fun g hg => (ho.lt g hg).1
  have hk3 : Kept (fun k => n₀ ≤ k) W w3 := by
    refine ⟨hg.os, hg.tape, hg.output, by have := hg.size; simp at this; omega, fun k hk hf => (hg.block k (by simp; omega) (fun e => hf (hrow k e.symm))).trans (Below.heap_alloc _ _ _ hk)⟩
  have hv3 : Boxed w3 lb 52 v := boxed_kept hv hk3 (by omega)
  have hk4 : Kept (fun k => k = lb ∨ n₀ ≤ k) W (w3.setCell ⟨lb, 0, none⟩ v') := (hk3.mono (fun i hi => .inr hi)).setCell (p := ⟨lb, 0, none⟩) (.inl (.inl rfl)) _
  have hne : some lb ≠ v'.ownBlock := fun e => by have := (hown.lt lb e.symm).1; omega
  refine ⟨hv3, ?_, hk4, ⟨v', hv3.set v', ?_, fun e => by simp at e⟩, boxed_kept HI.r0 hk4 (by omega), boxed_kept HI.r1 hk4 (by omega), boxed_kept HI.r2 hk4 (by omega), HI.below.trans (hk4.below HI.below.size (fun i hi => by omega)), Nat.le_trans HI.big hk4.size, fun y hy => ?_⟩
  · refine (((KeepsOthers.alloc W tmp).trans (KeepsOthers.of_grownBy hg fun j o ej hj => ?_)).trans (KeepsOthers.setCell _ _ _)).from _
    rcases (ho.alloc tmp).2 with ⟨rfl, _⟩ | ⟨g, cap, cur, rfl, _, hgb, _⟩
    · simp [Value.ownBlock] at ej
    · obtain rfl : g = j := by simpa [Value.ownBlock] using ej
      rw [hgb] at hj; cases hj; rfl
  · have e1 : (pre ++ [x]).length = pre.length + 1 := by simp
    have e2 : toksC ((pre ++ [x]).map (·.1)) = toksC (pre.map (·.1)) ++ x.1.toZ.cells .u8 := by
      unfold toksC
      rw [List.map_append, List.map_append]
      exact flatT_snoc _ _ _
    rw [e1, e2]
    exact hown.kept (grownBy_setCell' w3 lb v') (.inr hne.symm)
  · rcases List.mem_append.1 hy with hy | hy
    · exact HI.fine y hy
    · rw [List.mem_singleton] at hy; rw [hy]; exact hx
theorem LexI.leave (_h0 : w.heap.size + 1 + 1 < n₀) {pre : List (Tok × Nat)} {x : Tok × Nat} {W : World} (HI : LexI w lb n₀ pre W) (hx : x.2 ≠ 0) :
    KeepsFrom n₀ W (((W.setCell ⟨w.heap.size, 0, none⟩ (.slice none 0 0)).setCell ⟨w.heap.size + 1, 0, none⟩ (.int .i64 (x.1.at_ : Int))).setCell ⟨w.heap.size + 1 + 1, 0, none⟩ (.int .i64 (x.2 : Int))).drew ∧
    LexX w n₀ .ret (pre ++ [x]) (((W.setCell ⟨w.heap.size, 0, none⟩ (.slice none 0 0)).setCell ⟨w.heap.size + 1, 0, none⟩ (.int .i64 (x.1.at_ : Int))).setCell ⟨w.heap.size + 1 + 1, 0, none⟩ (.int .i64 (x.2 : Int))).drew := by
  obtain ⟨X, hX⟩ : ∃ X, W.setCell ⟨w.heap.size, 0, none⟩ (.slice none 0 0) = X := ⟨_, rfl⟩
  have k1 : Kept (fun k => k = w.heap.size) W X := by rw [← hX]; exact (Kept.refl (fun k => k = w.heap.size) W).setCell (p := ⟨w.heap.size, 0, none⟩) (.inl rfl) _
  have o1 : KeepsOthers W X := by rw [← hX]; exact KeepsOthers.setCell _ _ _
  have b0 : Boxed X w.heap.size 52 (.slice none 0 0) := by rw [← hX]; exact HI.r0.set (.slice none 0 0)
  have b1 := boxed_kept HI.r1 k1 (by omega)
  have b2 := boxed_kept HI.r2 k1 (by omega)
  rw [hX]
  clear hX
  obtain ⟨Y, hY⟩ : ∃ Y, X.setCell ⟨w.heap.size + 1, 0, none⟩ (.int .i64 (x.1.at_ : Int)) = Y := ⟨_, rfl⟩
  have k2 : Kept (fun k => k = w.heap.size + 1) X Y := by rw [← hY]; exact (Kept.refl (fun k => k = w.heap.size + 1) X).setCell (p := ⟨w.heap.size + 1, 0, none⟩) (.inl rfl) _
  have o2 : KeepsOthers X Y := by rw [← hY]; exact KeepsOthers.setCell _ _ _
  have d1 : Boxed Y (w.heap.size + 1) 3 (.int .i64 (x.1.at_ : Int)) := by rw [← hY]; exact b1.set _
  have d0 := boxed_kept b0 k2 (by omega)
  have d2 := boxed_kept b2 k2 (by omega)
  rw [hY]
  clear hY
  obtain ⟨Z, hZ⟩ : ∃ Z, Y.setCell ⟨w.heap.size + 1 + 1, 0, none⟩ (.int .i64 (x.2 : Int)) = Z := ⟨_, rfl⟩
  have k3 : Kept (fun k => k = w.heap.size + 1 + 1) Y Z := by rw [← hZ]; exact (Kept.refl (fun k => k = w.heap.size + 1 + 1) Y).setCell (p := ⟨w.heap.size + 1 + 1, 0, none⟩) (.inl rfl) _
  have o3 : KeepsOthers Y Z := by rw [← hZ]; exact KeepsOthers.setCell _ _ _
  have e2 : Boxed Z (w.heap.size + 1 + 1) 24 (.int .i64 (x.2 : Int)) := by rw [← hZ]; exact d2.set _
  have e0 := boxed_kept d0 k3 (by omega)
  have e1 := boxed_kept d1 k3 (by omega)
  rw [hZ]
  clear hZ
  have hbl := HI.below.size
  have hk : Kept (fun k => w.heap.size ≤ k) W Z := ((k1.mono (fun i hi => by omega)).trans (k2.mono (fun i hi => by omega))).trans (k3.mono (fun i hi => by omega))
  have hw := ((o1.trans o2).trans o3).from n₀
  exact ⟨⟨hw.size, hw.same⟩, rfl, ⟨pre, x, rfl, hx, e0, e1, e2⟩, HI.below.trans (hk.drew.below hbl (fun i hi => by omega)), Nat.le_trans HI.big hk.size⟩
theorem LexX.own (hn : w.heap.size + 3 ≤ n₀) (c : Code) : OwnFrom n₀ (LexX w n₀ c) := fun pre A B row hs hg hr => by
  have hk : Kept (fun k => row = some k) A B := ⟨hg.os, hg.tape, hg.output, hg.size, fun k hk hf => hg.block k hk (fun e => hf e.symm)⟩
  have hf : ∀ i, i ≤ w.heap.size + 1 + 1 → ¬ row = some i := fun i hi e => by have := (hr i e).1; omega
  obtain ⟨hr, ⟨pre', x, h1, h2, h3, h4, h5⟩, hb, hbig⟩ := hs
  exact ⟨hr, ⟨pre', x, h1, h2, boxed_kept h3 hk (hf _ (by omega)), boxed_kept h4 hk (hf _ (by omega)), boxed_kept h5 hk (hf _ (by omega))⟩, hb.trans (hk.below hb.size (fun i hi => hf i (by omega))), Nat.le_trans hbig hk.size⟩
end
/-- What lies in the boxes of the results behind the loop's own block. -/
theorem boxes_end {X : World} {D : Nat} {o' : Obj} {t0 t1 t2 : TypeId} {B : Nat} {a b c : Value} (e0 : Boxed X B t0 a) (e1 : Boxed X (B + 1) t1 b) (e2 : Boxed X (B + 1 + 1) t2 c) (hD : B + 1 + 1 < D) :
    (X.putObj D o').cell? ⟨B, 0, none⟩ = some a ∧ (X.putObj D o').cell? ⟨B + 1, 0, none⟩ = some b ∧ (X.putObj D o').cell? ⟨B + 1 + 1, 0, none⟩ = some c ∧ Below B X (X.putObj D o') := by
  have k := Kept.putObj (F := fun k => k = D) X D o' rfl
  exact ⟨(boxed_kept e0 k (by omega)).cell, (boxed_kept e1 k (by omega)).cell, (boxed_kept e2 k (by omega)).cell, k.below (by have := e0.lt; omega) (fun i hi => by omega)⟩
theorem lexR_fine (src : ByteArray) (hl : src.size ≤ 65536) {xs : List (Tok × Nat)} (hS : xs = elsA 0 (toksL src)) (hf : ∀ y ∈ xs, y.2 = 0) : lexR src.data.toList = (xs.map (·.1), 0, 0) := by
  have hll : ¬ 65536 < src.data.toList.length := by simp; show src.size ≤ 65536; exact hl
  obtain ⟨h1, h2⟩ := lex_els _ 0 (toksL src) (Nat.le_refl _)
  by_cases h0 : (lexA 0 (toksL src)).2.2 = 0
  · obtain ⟨e1, e2⟩ := h1 h0
    have e : lexA 0 (toksL src) = (xs.map (·.1), 0, 0) := by
      have ex : xs.map (·.1) = (lexA 0 (toksL src)).1 := by rw [hS, e1, List.map_map]; simp [Function.comp_def]
      rw [ex]
      exact Prod.ext rfl (Prod.ext e2 h0)
    unfold lexR
    rw [if_neg hll]
    show (if (lexA 0 (toksL src)).2.2 = 0 then lexA 0 (toksL src) else _) = _
    rw [if_pos h0, e]
  · obtain ⟨t, e1, e2⟩ := h2 h0
    exact absurd (hf (t, (lexA 0 (toksL src)).2.2) (by rw [hS, e1]; simp)) h0
theorem lexR_bad (src : ByteArray) (hl : src.size ≤ 65536) {pre : List (Tok × Nat)} {x : Tok × Nat} (hS : pre ++ [x] <+: elsA 0 (toksL src)) (hx : x.2 ≠ 0) : lexR src.data.toList = ([], x.1.at_, x.2) := by
  have hll : ¬ 65536 < src.data.toList.length := by simp; show src.size ≤ 65536; exact hl
  obtain ⟨suf, hs⟩ := hS
  have he : elsA 0 (toksL src) = pre ++ x :: suf := by rw [← hs]; simp
  have hn := (elsA_errs _ 0 (toksL src) (Nat.le_refl _) pre x suf he).2 hx
  subst hn
  obtain ⟨h1, h2⟩ := lex_els _ 0 (toksL src) (Nat.le_refl _)
  by_cases h0 : (lexA 0 (toksL src)).2.2 = 0
  · obtain ⟨e1, e2⟩ := h1 h0
    rw [e1] at he
    have : x ∈ (lexA 0 (toksL src)).1.map (·, 0) := by rw [he]; simp
    obtain ⟨t, _, rfl⟩ := List.mem_map.1 this
    exact absurd rfl hx
  · obtain ⟨t, e1, e2⟩ := h2 h0
    rw [e1] at he
    have hi := List.append_inj' he rfl
    simp only [List.cons.injEq, and_true] at hi
    unfold lexR
    rw [if_neg hll]
    show (if (lexA 0 (toksL src)).2.2 = 0 then lexA 0 (toksL src) else _) = _
    rw [if_neg h0]
    show ([], (lexA 0 (toksL src)).2.1, (lexA 0 (toksL src)).2.2) = _
    rw [← hi.2, e2]
set_option maxRecDepth 100000 in
set_option maxHeartbeats 4000000 in
theorem lex_fine (src : ByteArray) (w : World) (hl : src.size ≤ 65536) (hE : Hid (Env w)) : Calls Tryz.prog 10 #[.string src] w (LexR w src) := by
  refine (callsIn_wide (n := 5)).1 ?_
  refine callsIn_of_wp_marks Tryz.func10 rfl trivial ?_ rfl
  simp only [Tryz.ntmps10, List.size_toArray, List.length_cons, List.length_nil, Nat.reduceAdd, Nat.reduceSub, Array.replicate_succ, Array.replicate_zero, List.push_toArray, List.append_toArray, List.nil_append, List.cons_append]
  gi_wp2
  obtain ⟨a0, a1, a2, az, ab⟩ := alloc3 w (.cells #[.slice none 0 0] 52) (.cells #[.int .i64 0] 3) (.cells #[.int .i64 0] 24)
  refine ⟨trivial, ?_⟩
  refine (callsIn_wide.2 (starts_any _)).mono ?_
  rintro e w1 ⟨⟨g1, g2, g3, c1, c2, c3, rfl, hT1, hT2, hT3⟩, hb1⟩
  have HA0 := hide ((hb1.block _ (by omega)).trans a0)
  have HA1 := hide ((hb1.block _ (by omega)).trans a1)
  have HA2 := hide ((hb1.block _ (by omega)).trans a2)
  have hz1 : w.heap.size + 3 ≤ w1.heap.size := by have := hb1.size; omega
  have HB1 := hide (ab.trans (hb1.mono (by omega)))
  rw [az] at hT1 hT2 hT3
  have HT1 := hide hT1
  have HT2 := hide hT2
  have HT3 := hide hT3
  clear a0 a1 a2 az ab hT1 hT2 hT3 hb1
  gi_wp2
  refine ⟨trivial, ?_⟩
  refine (callsIn_wide.2 (all_any _ _)).mono ?_
  rintro e w2 ⟨rfl, rfl⟩
  have hbl := alloc3 w1 (.cells #[.string src, .int .i64 0, .nilFunc, .func (.func g1) #[] c1, .func (.func g2) #[] c2, .func (.func g3) #[] c3] 130) (.cells #[.slice none 0 0] 52) (.cells #[.pointer (some ⟨w1.heap.size, 0, none⟩)] 123)
  obtain ⟨b0, b1, b2, bz, bb⟩ := hbl
  gi_wp2
  have hN := hide bz
  have HB2 := hide bb
  have HSC := hide b0
  have HLB := hide b1
  have HXB := hide b2
  clear b0 b1 b2 bz bb
  generalize ((w1.alloc (.cells #[.string src, .int .i64 0, .nilFunc, .func (.func g1) #[] c1, .func (.func g2) #[] c2, .func (.func g3) #[] c3] 130)).alloc (.cells #[.slice none 0 0] 52)).alloc (.cells #[.pointer (some ⟨w1.heap.size, 0, none⟩)] 123) = wL at *
  obtain ⟨s0, s1, s2, s3, s4, s5, sf, sl⟩ := six_of HSC.out
  have hz : wL.heap.size = w1.heap.size + 3 := hN.out
  have hw4 : 6 ≤ w.heap.size := by have := hE.out.big; omega
  have HI : Hid (ItS w1.heap.size (w1.heap.size + 1 + 1) (w1.heap.size + 1) wL.heap.size src (fun k => w.heap.size + 3 < k ∧ k < w1.heap.size) g1 g2 g3 c1 c2 c3 0 wL) := by
    refine hide ⟨⟨s0, s3, s4, s5, HT1.out.below HB2.out, HT2.out.below HB2.out, HT3.out.below HB2.out, fun k hk => by omega⟩, s1, sf, HXB.out, hE.out.keptB (HB1.out.trans (HB2.out.mono (by omega))) hw4, Nat.le_refl _, by omega, by omega, ⟨by omega, by omega⟩, ⟨by omega, by omega⟩, by omega, by omega, fun k hk => ⟨by omega, by omega⟩⟩
  clear s0 s1 s2 s3 s4 s5 sf sl HT1 HT2 HT3
  have HI0 : Hid (LexI w (w1.heap.size + 1) wL.heap.size [] wL) :=
    hide ⟨⟨_, HLB.out, ⟨rfl, .inl ⟨rfl, rfl⟩⟩, fun _ => rfl⟩, (HB2.out.block _ (by omega)).trans HA0.out, (HB2.out.block _ (by omega)).trans HA1.out, (HB2.out.block _ (by omega)).trans HA2.out, HB1.out.trans (HB2.out.mono (by omega)), Nat.le_refl _, fun y hy => by simp at hy⟩
  have hs : src.size ≤ 1099511627776 := by omega
  have hseq : SeqW 4 Tryz.prog 126 #[.pointer (some ⟨w1.heap.size + 1 + 1, 0, none⟩)] encT (fun A B => Kept (fun k => k = w1.heap.size) A B) (KpL (w1.heap.size + 1) wL.heap.size) (fun xs => xs = elsA 0 (toksL src)) (fun pre => pre <+: elsA 0 (toksL src)) src.size wL := by
    intro l J Jx W hW hT hY h0
    exact all_iter l w1.heap.size (w1.heap.size + 1 + 1) (w1.heap.size + 1) wL.heap.size src _ g1 g2 g3 c1 c2 c3 J Jx W (hide (HI.out.below hW)) hs (hide hT) (hide hY) (hide h0)
  have HSQ := hide hseq
  clear hseq HI HSC HXB
  refine wp_range_state (n := 5) (by omega) (gf := 126) (lb := #[.pointer (some ⟨w1.heap.size + 1 + 1, 0, none⟩)]) rfl (enters_of Tryz.func126 (by kernel_rfl) rfl) HSQ.out
    (fun h k => h.trans k) (fun W l o o' hl' _ _ _ => Kept.putObj W l o' (.inr hl')) (fun A B k o hT hk ho => (hT.block k (Array.getElem?_eq_some_iff.1 ho).1 (by omega)).trans ho) (Below.refl _ _) (fun _ => rfl)
    (LexI w (w1.heap.size + 1) wL.heap.size) (LexX w wL.heap.size) (LexI.own (by omega) (by omega)) (fun s A B h hT => LexI.state (by omega) (by omega) (by omega) h hT) (LexX.own (by omega)) HI0.out
    (fun x a' W => ∃ Bx, wL.heap.size ≤ Bx ∧ W.heap[Bx]? = some (.cells #[.int .u8 (x.1.kind : Int), .string ⟨x.1.text.toArray⟩, .int .i64 (x.1.at_ : Int)] 136 (0, 0)) ∧ a' = { tmps := #[.string src, undef, .pointer (some ⟨w.heap.size, 0, none⟩), .pointer (some ⟨w.heap.size + 1, 0, none⟩), .pointer (some ⟨w.heap.size + 1 + 1, 0, none⟩), .pointer (some ⟨w1.heap.size, 0, none⟩), .pointer (some ⟨w1.heap.size + 1, 0, none⟩), .pointer (some ⟨Bx, 0, none⟩), .int .i64 (x.2 : Int), .string src, .int .i64 (src.size : Int), .bool (decide ((65536 : Int) < (src.size : Int))), .string src, .agg #[.string src, .int .i64 0], .agg #[.nilFunc, .func (.func g1) #[] c1, .func (.func g2) #[] c2, .func (.func g3) #[] c3], .agg #[.string src, .int .i64 0, .nilFunc, .func (.func g1) #[] c1, .func (.func g2) #[] c2, .func (.func g3) #[] c3], .pointer (some ⟨w1.heap.size, 0, none⟩), .pointer (some ⟨w1.heap.size, 0, none⟩), .func (.func 126) #[] #[.pointer (some ⟨w1.heap.size + 1 + 1, 0, none⟩)], x.1.val, .int .i64 (x.2 : Int), undef, undef, undef, undef, undef, undef, undef, undef, undef, undef], defers := [] })
    (fun x a' _ X Y row hs hg hr => by obtain ⟨Bx, h1, h2, h3⟩ := hs; exact ⟨Bx, h1, (hg.block Bx (Array.getElem?_eq_some_iff.1 h2).1 (fun e' => by obtain ⟨-, o, ho, hc⟩ := hr Bx e'.symm; rw [h2] at ho; cases ho; cases hc)).trans h2, h3⟩)
    ?assign ?body ?done ?stop
  case assign =>
    rintro l pre ⟨⟨kd, tx, at_⟩, er⟩ W K - hI hK
    have HII := hide hI
    unfold encT Tok.val
    gi_wp2
    refine hK _ _ ((KeepsOthers.alloc _ _).from _) ((Kept.refl _ W).alloc _) (HII.out.keep (F := fun _ => False) ((Kept.refl _ W).alloc _) (fun _ _ h => h) (fun h => h) (fun v ho => ho.alloc _)) ⟨W.heap.size, HII.out.big, heap_alloc_new W _, rfl⟩
  case body =>
    rintro l pre ⟨⟨kd, tx, at_⟩, er⟩ a' W hSp hI ⟨Bx, hBx, hX, rfl⟩ hlen
    have hzl : w1.heap.size + 3 ≤ wL.heap.size := by omega
    have HZ := hide hz
    clear hz
    have hmo := mixed
    obtain ⟨i0, hi0, hz0, hz1', hz2⟩ := info_parts tokInfo
    have HII := hide hI
    have HX := hide hX
    have HV := hide hI.row
    have HSp := hide hSp
    obtain ⟨x0, x1, x2, -, -, -, xl⟩ := three_of hX
    have c0 := hI.r0.cell
    have f0 := hI.r0.frozen
    have c1' := hI.r1.cell
    have f1 := hI.r1.frozen
    have c2' := hI.r2.cell
    have f2 := hI.r2.frozen
    have l0 := hI.r0.lt
    have l1 := hI.r1.lt
    have l2 := hI.r2.lt
    obtain ⟨v, hv, ho, hnil⟩ := hI.row
    have hbig := hI.big
    have cv := hv.cell
    have fv := hv.frozen
    have lv := hv.lt
    have HO := hide ho
    have HVB := hide hv
    clear hI hX hSp hv ho hnil
    unfold Tok.val
    simp only at x0 x1 x2
    by_cases her : er = 0
    · have hb0 : ((er : Int) != 0) = false := by simp; omega
      have HER := hide her
      clear her
      gi_wp2_with (gi_at_builtin; apply Hid.out)
      refine hide ?_
      refine wpListIn_append_own _ rfl _ _ 52 rfl wL.heap.size 136 i0 (.agg #[.int .u8 0, .string ⟨#[]⟩, .int .i64 0]) 3 32 Tryz.underlying52 hi0 hz0 hz1' hz2 rfl (by decide) _ _ _ rfl (HO.out.alloc _) ⟨W.heap.size, 0, none⟩ 1 1 [.int .u8 (kd : Int), .string ⟨tx.toArray⟩, .int .i64 (at_ : Int)] rfl rfl (World.news_of_block (heap_alloc_new W _)) (by simp [Value.oneCell']) (by unfold maxLen; omega) (by omega) (by simp; omega) ?_
      intro v' w3 hown' hg3 hnil3
      obtain ⟨g', cap', hv'⟩ := ownsRow_succ hown'
      subst hv'
      obtain ⟨h1, h2, h3, h4⟩ := LexI.append (x := (⟨kd, tx, at_⟩, er)) (by omega) (by omega) HII.out HER.out HVB.out HO.out hown' hg3
      have d0 := h1.cell
      have d1 := h1.frozen
      have H2 := hide h2
      have H3 := hide h3
      have H4 := hide h4
      clear h1 h2 h3 h4 hown' hg3 hnil3
      gi_wp2
      exact ⟨H2.out, H3.out, H4.out⟩
    · have hb0 : ((er : Int) != 0) = true := by simp; omega
      have H2 := hide (LexI.leave (x := (⟨kd, tx, at_⟩, er)) (by omega) HII.out her)
      have HER := hide her
      clear her
      gi_wp2
      gi_region_with_o (fail)
      all_goals
        gi_wp2
        exact H2.out
  case done =>
    rintro D xs W hD hS hI hk
    have c0 := hI.r0.cell
    have f0 := hI.r0.frozen
    have c1' := hI.r1.cell
    have f1 := hI.r1.frozen
    have c2' := hI.r2.cell
    have f2 := hI.r2.frozen
    have l0 := hI.r0.lt
    have l1 := hI.r1.lt
    have l2 := hI.r2.lt
    obtain ⟨v, hv, ho, hnil⟩ := hI.row
    obtain ⟨va, vn, vc, hvs⟩ : ∃ va vn vc, v = .slice va vn vc := by
      rcases ho.2 with ⟨h, _⟩ | ⟨g, cap, cur, h, _⟩
      · exact ⟨_, _, _, h⟩
      · exact ⟨_, _, _, h⟩
    subst hvs
    have cv := hv.cell
    have HO := hide ho
    have HI1 := hide hI
    have HS1 := hide hS
    have HK := hide hk
    have HNil := hide hnil
    have HR := hide (lexR_fine src hl hS hI.fine)
    have HBx := hide hv
    have HBl := hide hI.below
    have HB0 := hide hI.r0
    have HB1' := hide hI.r1
    have HB2' := hide hI.r2
    have hbig := hI.big
    clear hv ho hnil hI hS hk
    gi_wp2
    obtain ⟨X, hX⟩ : ∃ X, W.setCell ⟨w.heap.size, 0, none⟩ (.slice va vn vc) = X := ⟨_, rfl⟩
    have k1 : Kept (fun k => k = w.heap.size) W X := by rw [← hX]; exact (Kept.refl (fun k => k = w.heap.size) W).setCell (p := ⟨w.heap.size, 0, none⟩) (.inl rfl) _
    have b0 : Boxed X w.heap.size 52 (.slice va vn vc) := by rw [← hX]; exact HB0.out.set _
    have b1 := boxed_kept HB1'.out k1 (by omega)
    have b2 := boxed_kept HB2'.out k1 (by omega)
    rw [hX]
    clear hX
    obtain ⟨Y, hY⟩ : ∃ Y, X.setCell ⟨w.heap.size + 1, 0, none⟩ (.int .i64 0) = Y := ⟨_, rfl⟩
    have k2 : Kept (fun k => k = w.heap.size + 1) X Y := by rw [← hY]; exact (Kept.refl (fun k => k = w.heap.size + 1) X).setCell (p := ⟨w.heap.size + 1, 0, none⟩) (.inl rfl) _
    have d1 : Boxed Y (w.heap.size + 1) 3 (.int .i64 0) := by rw [← hY]; exact b1.set _
    have d0 := boxed_kept b0 k2 (by omega)
    have d2 := boxed_kept b2 k2 (by omega)
    rw [hY]
    clear hY
    obtain ⟨Z, hZ⟩ : ∃ Z, Y.setCell ⟨w.heap.size + 1 + 1, 0, none⟩ (.int .i64 0) = Z := ⟨_, rfl⟩
    have k3 : Kept (fun k => k = w.heap.size + 1 + 1) Y Z := by rw [← hZ]; exact (Kept.refl (fun k => k = w.heap.size + 1 + 1) Y).setCell (p := ⟨w.heap.size + 1 + 1, 0, none⟩) (.inl rfl) _
    have e2 : Boxed Z (w.heap.size + 1 + 1) 24 (.int .i64 0) := by rw [← hZ]; exact d2.set _
    have e0 := boxed_kept d0 k3 (by omega)
    have e1 := boxed_kept d1 k3 (by omega)
    rw [hZ]
    clear hZ
    have hk4 : Kept (fun k => w.heap.size ≤ k ∧ k < w.heap.size + 3) W Z := ((k1.mono (fun i hi => by omega)).trans (k2.mono (fun i hi => by omega))).trans (k3.mono (fun i hi => by omega))
    have hDl := (Array.getElem?_eq_some_iff.1 HK.out).1
    have hkD : Z.heap[D]? = some (.deferred (some [])) := (hk4.block D hDl (fun h => by omega)).trans HK.out
    obtain ⟨q0, q1, q2, qb⟩ := boxes_end (o' := .deferred none) e0 e1 e2 (show w.heap.size + 1 + 1 < D by omega)
    have hoZ : Z.ownsRow wL.heap.size 136 3 (.slice va vn vc) xs.length (toksC (xs.map (·.1))) := own_kept HO.out hk4 (fun g hg => by omega)
    have hoF := own_wide (base' := w.heap.size) (ownsRow_putObj hoZ (.deferred none) hkD rfl) (by omega)
    refine ⟨by simp, .inl ⟨_, _, rfl, run_takeDeferred hkD, ?_⟩⟩
    refine ⟨_, (by simp only [results, Tryz.results10]; simp [go_sem, q0, q1, q2]; rfl), ?_⟩
    refine ⟨.slice va vn vc, by rw [HR.out]; rfl, ?_, fun h => ?_, HBl.out.trans ((hk4.below (by omega) (fun i hi => by omega)).trans qb)⟩
    · rw [HR.out]; simpa using hoF
    · rw [HR.out] at h; exact HNil.out (by simpa using h)
  case stop =>
    rintro D c pre W hD hSp hX hk
    obtain ⟨rfl, ⟨pre', x, rfl, hx, e0, e1, e2⟩, hb, hbig⟩ := hX
    have HR := hide (lexR_bad src hl hSp hx)
    obtain ⟨q0, q1, q2, qb⟩ := boxes_end (o' := .deferred none) e0 e1 e2 (show w.heap.size + 1 + 1 < D by omega)
    have HQ0 := hide q0
    have HQ1 := hide q1
    have HQ2 := hide q2
    clear q0 q1 q2 e0 e1 e2
    gi_wp2
    refine ⟨by simp, .inl ⟨_, _, rfl, run_takeDeferred hk, ?_⟩⟩
    have q0 := HQ0.out
    have q1 := HQ1.out
    have q2 := HQ2.out
    refine ⟨_, (by simp only [results, Tryz.results10]; simp [go_sem, q0, q1, q2]; rfl), ?_⟩
    refine ⟨.slice none 0 0, by rw [HR.out], ?_, fun h => rfl, hb.trans qb⟩
    rw [HR.out]
    exact ⟨rfl, .inl ⟨rfl, rfl⟩⟩
theorem lex_any (src : ByteArray) (w : World) (hE : Env w) : Calls Tryz.prog 10 #[.string src] w (LexR w src) := by
  by_cases hl : src.size ≤ 65536
  · exact lex_fine src w hl (hide hE)
  · exact lex_long src w (by omega)
end Go.Proofs.YtndpnpohdoggjaaGreatDoor
namespace Go.Proofs.YtndpnpohdoggjaaGreatDoor
theorem lexA_ok : ∀ (n p : Nat) (l : List UInt8), l.length ≤ n → (∀ t ∈ (lexA p l).1, t.text.length ≤ l.length ∧ 1 ≤ t.kind ∧ t.kind ≤ 3 ∧ p ≤ t.at_ ∧ t.at_ + t.text.length ≤ p + l.length) ∧ (lexA p l).1.length ≤ l.length ∧ (lexA p l).2.1 ≤ p + l.length ∧ (lexA p l).2.2 ≤ 72
  | n, p, l, hn => by
    rw [lexA_eq]
    have hd : (l.drop (skipN false l)).length = l.length - skipN false l := List.length_drop
    have hsk := skipN_le false l
    cases h : l.drop (skipN false l) with
    | nil => simp
    | cons b r =>
      rw [h] at hd
      simp only [List.length_cons] at hd
      have hle := tokN_le b r
      have hkd : (tokN (b :: r)).2.2 = 0 → 1 ≤ (tokN (b :: r)).1 ∧ (tokN (b :: r)).1 ≤ 3 := by
        intro h0
        unfold tokN at h0 ⊢
        simp only at h0 ⊢
        split
        · split <;> simp
        · split
          · split <;> simp
          · split <;> simp
      have her : (tokN (b :: r)).2.2 ≤ 72 := by
        unfold tokN
        simp only
        split
        · split <;> simp
        · split
          · split <;> simp
          · split <;> simp
      simp only
      by_cases h0 : (tokN (b :: r)).2.2 = 0
      · have hp := tokN_pos b r h0
        have hl : ((b :: r).drop (tokN (b :: r)).2.1).length = r.length + 1 - (tokN (b :: r)).2.1 := by rw [List.length_drop, List.length_cons]
        cases n with
        | zero => omega
        | succ n =>
          obtain ⟨i1, i2, i3, i4⟩ := lexA_ok n (p + skipN false l + (tokN (b :: r)).2.1) ((b :: r).drop (tokN (b :: r)).2.1) (by omega)
          rw [if_pos h0]
          rw [hl] at i1 i2 i3
          refine ⟨fun t ht => ?_, by simp only [List.length_cons]; omega, by simp only; omega, i4⟩
          rcases List.mem_cons.1 ht with rfl | ht
          · have hk := hkd h0
            have hlt : ((b :: r).take (tokN (b :: r)).2.1).length = (tokN (b :: r)).2.1 := by rw [List.length_take, List.length_cons]; omega
            simp only [hlt]
            omega
          · obtain ⟨j1, j2, j3, j4, j5⟩ := i1 t ht
            omega
      · rw [if_neg h0]
        exact ⟨fun t ht => by simp at ht, by simp, by simp only; omega, her⟩
/-- What is known of every result of Lex. -/
structure LexOk (l : List UInt8) : Prop where
  texts : ∀ t ∈ (lexR l).1, t.text.length ≤ 65536 ∧ 1 ≤ t.kind ∧ t.kind ≤ 3 ∧ t.at_ + t.text.length ≤ l.length
  count : (lexR l).1.length ≤ 65536 ∧ (lexR l).1.length ≤ l.length
  at_ : (lexR l).2.1 ≤ 65536 ∧ (lexR l).2.1 ≤ l.length
  err : (lexR l).2.2 ≤ 72
  none_ : (lexR l).2.2 ≠ 0 → (lexR l).1 = []
theorem lex_ok (l : List UInt8) : LexOk l := by
  have h := lexA_ok l.length 0 l (Nat.le_refl _)
  obtain ⟨h1, h2, h3, h4⟩ := h
  by_cases hl : 65536 < l.length
  · have e : lexR l = ([], 0, 3) := by unfold lexR; rw [if_pos hl]
    refine ⟨?_, ?_, ?_, ?_, ?_⟩ <;> rw [e] <;> simp
  · by_cases h0 : (lexA 0 l).2.2 = 0
    · have e : lexR l = lexA 0 l := by unfold lexR; rw [if_neg hl, if_pos h0]
      refine ⟨?_, ?_, ?_, ?_, ?_⟩ <;> rw [e]
      · intro t ht; obtain ⟨a, b, c, d, f⟩ := h1 t ht; omega
      · omega
      · omega
      · exact h4
      · exact fun h => absurd h0 h
    · have e : lexR l = ([], (lexA 0 l).2.1, (lexA 0 l).2.2) := by unfold lexR; rw [if_neg hl, if_neg h0]
      refine ⟨?_, ?_, ?_, ?_, ?_⟩ <;> rw [e]
      · intro t ht; simp at ht
      · simp
      · simp only; omega
      · exact h4
      · exact fun _ => rfl
/-- The tokens of a source. -/
theorem tokok_lex (l : List UInt8) : TokOk (lexR l).1 ∧ (lexR l).1.length ≤ 65536 := by
  have h := lex_ok l
  refine ⟨⟨?_, fun t ht => by have := (h.texts t ht).1; omega, fun t ht => by have := h.texts t ht; omega⟩, h.count.1⟩
  by_cases hl : 65536 < l.length
  · have e : lexR l = ([], 0, 3) := by unfold lexR; rw [if_pos hl]
    rw [e]
    intro t ht
    cases ht
  · by_cases h0 : (lexA 0 l).2.2 = 0
    · have e : lexR l = lexA 0 l := by unfold lexR; rw [if_neg hl, if_pos h0]
      rw [e]
      exact good_lex 0 l (by omega) (fun t ht => by have := (lexA_ok l.length 0 l (Nat.le_refl _)).1 t ht; omega)
    · have e : lexR l = ([], (lexA 0 l).2.1, (lexA 0 l).2.2) := by unfold lexR; rw [if_neg hl, if_neg h0]
      rw [e]
      intro t ht
      cases ht
end Go.Proofs.YtndpnpohdoggjaaGreatDoor
namespace Go.Proofs.YtndpnpohdoggjaaGreatDoor
def Er {α : Type} (m : Ps α) : Prop := ∀ r n r', m r = .bad n r' → n = 80 ∨ n = 81
theorem Er.ret {α : Type} (a : α) : Er (pure a : Ps α) := fun r n r' h => by
  have h : (Res.ok a r : Res α) = .bad n r' := h
  cases h
theorem Er.bind {α β : Type} {m : Ps α} {f : α → Ps β} (h : Er m) (k : ∀ a, Er (f a)) : Er (m >>= f) := fun r n r' e => by
  cases hm : m r with
  | ok a r1 => rw [bnd_ok hm] at e; exact k a _ _ _ e
  | bad n1 r1 =>
    rw [bnd_bad hm] at e
    injection e with e1 _
    subst e1
    exact h _ _ _ hm
theorem takes_er (t : List UInt8) : Er (takesP t) := fun r n r' h => by
  unfold takesP at h
  split at h <;> cases h
theorem must_er (t : List UInt8) : Er (mustP t) := fun r n r' h => by
  unfold mustP at h
  split at h
  · cases h
  · injection h with h _; exact .inl h.symm
theorem next_er (k : Nat) : Er (nextP k) := fun r n r' h => by
  unfold nextP at h
  split at h
  · cases h
  · injection h with h _; exact .inl h.symm
theorem num_er : Er numP := (next_er 2).bind fun _ => .ret _
theorem of_er (l : List (List UInt8)) : Er (ofP l) := fun r n r' h => by
  unfold ofP at h
  split at h
  · cases h
  · injection h with h _; exact .inl h.symm
theorem ops_er : ∀ n, Er (opsP n)
  | 0 => .ret _
  | n + 1 => num_er.bind fun _ => (ops_er n).bind fun _ => .ret _
theorem ins_er : Er insP := (of_er _).bind fun _ => (ops_er _).bind fun _ => (must_er _).bind fun _ => .ret _
theorem code_loop_er : ∀ (f : Nat) (acc : List InsD), Er (codeLoop f acc)
  | 0, acc => .ret acc
  | f + 1, acc => fun r n r' h => by
    unfold codeLoop at h
    split at h
    · exact (ins_er.bind fun x => code_loop_er f (acc ++ [x])) r n r' h
    · cases h
theorem code_er : Er codeP := fun r n r' h => code_loop_er _ _ r n r' h
end Go.Proofs.YtndpnpohdoggjaaGreatDoor
namespace Go.Proofs.YtndpnpohdoggjaaGreatDoor
open Go.RowKit
/-- Whether two things are equal. -/
noncomputable def eqB {α : Type} (a b : α) : Bool := @decide (a = b) (Classical.propDecidable _)
theorem eqB_yes {α : Type} {a b : α} (h : a = b) : eqB a b = true := by unfold eqB; simpa using h
theorem eqB_no {α : Type} {a b : α} (h : a ≠ b) : eqB a b = false := by unfold eqB; simpa using h
theorem eqB_iff {α : Type} {a b : α} : eqB a b = true ↔ a = b := by unfold eqB; simp
/-- A slice with an element: where it lies, what its cells say. -/
def DRow (w : World) (A : Option Addr) (size : Nat) (es : List (List Dat)) : Prop :=
  es = [] ∨ ∃ b off, A = some ⟨b, off, none⟩ ∧ b < w.heap.size ∧ ∀ (i j : Nat) e d, es[i]? = some e → e[j]? = some d → ∃ u, w.cell? ⟨b, off + i * size + j, none⟩ = some u ∧ DAt w (fun _ => True) u d
theorem DAt.slice {w : World} {v : Value} {size : Nat} {es : List (List Dat)} (h : DAt w (fun _ => True) v (.row size es)) : ∃ A c, v = .slice A es.length c ∧ DRow w A size es := by
  generalize hd : Dat.row size es = d at h
  cases h with
  | leaf v => cases hd
  | nil A c size' =>
    injection hd with h1 h2
    subst h2
    exact ⟨A, c, rfl, .inl rfl⟩
  | row b off c size' n es' val hn hG hb hc hdd =>
    injection hd with h1 h2
    subst h1 h2
    exact ⟨_, c, by rw [hn], .inr ⟨b, off, rfl, hb, fun i j e d he hd => ⟨_, hc i j e d he hd, hdd i j e d he hd⟩⟩⟩
theorem DAt.leaf_eq {w : World} {G : Nat → Prop} {u v : Value} (h : DAt w G u (.leaf v)) : u = v := by
  generalize hd : Dat.leaf v = d at h
  cases h with
  | leaf v => injection hd with h1; exact h1.symm
  | nil => cases hd
  | row => cases hd
/-- What cell j of an element says. -/
def CellAt (w : World) (p : Addr) (d : Dat) : Prop := ∃ u, w.cell? p = some u ∧ DAt w (fun _ => True) u d
theorem CellAt.leafc {w : World} {p : Addr} {v : Value} (h : CellAt w p (.leaf v)) : w.cell? p = some v := by
  obtain ⟨u, h1, h2⟩ := h
  rw [h1, h2.leaf_eq]
theorem DRow.at_ {α : Type} {w : World} {A : Option Addr} {size k : Nat} {l : List α} {cells : α → List Dat} {x : α} (h : DRow w A size (l.map cells)) (hx : l[k]? = some x) :
    ∃ b off, A = some ⟨b, off, none⟩ ∧ b < w.heap.size ∧ ∀ (j : Nat) d, (cells x)[j]? = some d → CellAt w ⟨b, off + k * size + j, none⟩ d := by
  rcases h with h | ⟨b, off, h1, h2, h3⟩
  · rw [List.map_eq_nil_iff] at h
    subst h
    simp at hx
  · exact ⟨b, off, h1, h2, fun j d hd => h3 k j (cells x) d (by rw [List.getElem?_map, hx]; rfl) hd⟩
theorem at_ne {α : Type} {la lb : List α} {k : Nat} {x y : α} (hx : la[k]? = some x) (hy : lb[k]? = some y) (h : x ≠ y) : eqB la lb = false := eqB_no (fun e => h (by rw [e, hy] at hx; injection hx with hx; exact hx.symm))
theorem take_step {α : Type} {la lb : List α} {k : Nat} {x : α} (h : la.take k = lb.take k) (hx : la[k]? = some x) (hy : lb[k]? = some x) : la.take (k + 1) = lb.take (k + 1) := by
  obtain ⟨h1, rfl⟩ := List.getElem?_eq_some_iff.1 hx
  obtain ⟨h2, h3⟩ := List.getElem?_eq_some_iff.1 hy
  rw [List.take_succ_eq_append_getElem h1, List.take_succ_eq_append_getElem h2, h, h3]
theorem all_taken {α : Type} {la lb : List α} {k : Nat} (h : la.take k = lb.take k) (hk : ¬ k < la.length) (hn : la.length = lb.length) : la = lb := by
  rwa [List.take_of_length_le (by omega), List.take_of_length_le (by omega)] at h
/-- Two things differ, as a walk asks for it, or they are the same. -/
theorem dS (p q : List UInt8) : ((⟨p.toArray⟩ : ByteArray).toList == (⟨q.toArray⟩ : ByteArray).toList) = false ∨ p = q := by
  by_cases h : p = q
  · exact .inr h
  · exact .inl (by rw [ByteArray.toList_eq, ByteArray.toList_eq]; simpa using h)
theorem dI (p q : Int) : ((p == q) = false ∧ (p != q) = true) ∨ p = q := by
  by_cases h : p = q
  · exact .inr h
  · exact .inl ⟨by simpa using h, by simpa using h⟩
theorem dU (p q : Nat) : (((p : Int) == (q : Int)) = false ∧ ((p : Int) != (q : Int)) = true) ∨ p = q := by
  rcases dI p q with h | h
  · exact .inl h
  · exact .inr (by omega)
theorem dB (p q : Bool) : ((p == q) = false ∧ (p != q) = true) ∨ p = q := by cases p <;> cases q <;> simp
theorem dR {α : Type} (p q : α) : eqB p q = false ∨ p = q := by
  by_cases h : p = q
  · exact .inr h
  · exact .inl (eqB_no h)
theorem eqB_self {α : Type} (p : α) : eqB p p = true := eqB_yes rfl
/-- A plain cell in a later world. -/
theorem lc {W wr : World} (hbr : Below W.heap.size W wr) {b o : Nat} {v : Value} (hb : b < W.heap.size) (h : CellAt W ⟨b, o, none⟩ (.leaf v)) : wr.cell? ⟨b, o, none⟩ = some v := (hbr.cell (p := ⟨b, o, none⟩) hb).trans h.leafc
/-- Nothing in it is longer than 2^40. -/
def ProcD.sm (x : ProcD) : Prop := x.code.length ≤ 1099511627776
def PartD.sm (x : PartD) : Prop := x.semas.length ≤ 1099511627776 ∧ x.bufs.length ≤ 1099511627776 ∧ x.ports.length ≤ 1099511627776 ∧ x.procs.length ≤ 1099511627776 ∧ ∀ p ∈ x.procs, p.sm
def ModD.sm (x : ModD) : Prop := x.parts.length ≤ 1099511627776 ∧ ∀ p ∈ x.parts, p.sm
def ChanD.sm (x : ChanD) : Prop := x.to.length ≤ 1099511627776
def VlD.sm (x : VlD) : Prop := x.to.length ≤ 1099511627776
def CauseD.sm (x : CauseD) : Prop := x.needs.length ≤ 1099511627776 ∧ x.but.length ≤ 1099511627776
structure CfgD.sm (x : CfgD) : Prop where
  modules : x.modules.length ≤ 1099511627776 ∧ ∀ p ∈ x.modules, p.sm
  channels : x.channels.length ≤ 1099511627776 ∧ ∀ p ∈ x.channels, p.sm
  switches : x.switches.length ≤ 1099511627776
  links : x.links.length ≤ 1099511627776
  vls : x.vls.length ≤ 1099511627776 ∧ ∀ p ∈ x.vls, p.sm
  health : x.health.length ≤ 1099511627776
  causes : x.causes.length ≤ 1099511627776 ∧ ∀ p ∈ x.causes, p.sm
  versions : x.versions.length ≤ 1099511627776
end Go.Proofs.YtndpnpohdoggjaaGreatDoor
