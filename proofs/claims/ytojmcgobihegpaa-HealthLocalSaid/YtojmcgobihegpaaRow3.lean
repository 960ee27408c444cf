/-
  health.Row and health.Decide: contracts.
-/
import Derived.Test.YtojmcgobihegpaaRow2
namespace Go.Proofs.Ytojmcgobihegpaa
open Go.RowKit Go.Shelf
attribute [local go_sem] Oper.semAt_some
def bestStep (s : Int × Int) (x : HRow × Nat) : Int × Int := if s.2 < rankZ x.1 then ((x.2 : Int), rankZ x.1) else s
def bestOf (xs : List (HRow × Nat)) : Int × Int := xs.foldl bestStep (-1, -1)
theorem bestOf_snoc (xs : List (HRow × Nat)) (x : HRow × Nat) : bestOf (xs ++ [x]) = bestStep (bestOf xs) x := by simp [bestOf]
/-- Row's error. -/
def badB (p : ByteArray) (f : Int) : Bool := !knownB f || (modularB f && !p.toList.isEmpty)
set_option maxHeartbeats 800000 in
theorem row_bad (a : Option Addr) (n cap : Nat) (m p : ByteArray) (f : Int) (w : World) (hb : badB p f = true) :
    Calls Try.prog 12 #[.slice a n cap, .string m, .string p, .int .u8 f] w fun e w' => e = .returned (.tuple #[.int .i64 (-1), .int .i64 2]) ∧ w = w' := by
  unfold badB at hb
  cases hk : knownB f
  · clear hb
    go_enter Try.func12, Try.ntmps12
    go_wp2_with (go_at_call 24; refine (known_any _ _).mono ?_; rintro e w' ⟨rfl, rfl⟩)
    go_ret2
    exact ⟨rfl, rfl⟩
  · cases hm : modularB f
    · simp [hk, hm] at hb
    · have hp : p.toList.isEmpty = false := by simpa [hk, hm] using hb
      clear hb
      go_enter Try.func12, Try.ntmps12
      go_wp2_with (first
        | (go_at_call 24; refine (known_any _ _).mono ?_; rintro e w' ⟨rfl, rfl⟩)
        | (go_at_call 25; refine (modular_any _ _).mono ?_; rintro e w' ⟨rfl, rfl⟩))
      go_ret2
      exact ⟨rfl, rfl⟩
theorem KeepsBut.setCell {lo hi n₀ : Nat} {A B : World} (h : KeepsBut lo hi n₀ A B) {p : Addr} (h1 : lo ≤ p.block) (h2 : p.block < hi) (u : Value) : KeepsBut lo hi n₀ A (B.setCell p u) :=
  ⟨by simpa [World.setCell] using h.size, fun i hi hor => (Below.heap_setCell B p u i (by omega)).trans (h.block i hi hor)⟩
theorem KeepsBut.alloc {lo hi n₀ : Nat} {A B : World} (h : KeepsBut lo hi n₀ A B) (hn : n₀ ≤ B.heap.size) (o : Obj) : KeepsBut lo hi n₀ A (B.alloc o) :=
  ⟨Nat.le_trans h.size (by simp), fun i hi hor => (Below.heap_alloc B o i (by omega)).trans (h.block i hi hor)⟩
/-- Block B holds just these cells. -/
def Blk (W : World) (B : Nat) (t : TypeId) (cs : Array Value) : Prop := W.heap[B]? = some (.cells cs t (0, 0))
theorem Blk.cell {W : World} {B : Nat} {t : TypeId} {cs : Array Value} (h : Blk W B t cs) (i : Nat) : W.cell? ⟨B, i, none⟩ = cs[i]? := by simp [World.cell?, show W.heap[B]? = _ from h]
theorem Blk.new (W : World) (t : TypeId) (cs : Array Value) : Blk (W.alloc (.cells cs t)) W.heap.size t cs := World.alloc_heap_new W _
theorem blk_own {β : Type} (B : Nat) (t : TypeId) (f : β → Array Value) : Own (fun s W => Blk W B t (f s)) := fun s X Y row hs hg hrow => by
  refine (hg.block B (Array.getElem?_eq_some_iff.1 (show X.heap[B]? = _ from hs)).1 (fun e' => ?_)).trans hs
  obtain ⟨o, ho, hc⟩ := hrow B e'.symm
  rw [show X.heap[B]? = _ from hs] at ho; cases ho; cases hc
set_option maxRecDepth 100000 in
set_option maxHeartbeats 4000000 in
theorem row_ok (a : Option Addr) (n cap : Nat) (rs : List HRow) (m p : ByteArray) (f : Int) (w : World) (hn : n ≤ 9223372036854775807) (HL : Hid (rs.length = n)) (hR : Hid (HRows w.heap.size w a rs)) (hb : badB p f = false) :
    Calls Try.prog 12 #[.slice a n cap, .string m, .string p, .int .u8 f] w fun e w' => e = .returned (.tuple #[.int .i64 (bestOf (concs rs m p f)).1, .int .i64 0]) ∧ Below w.heap.size w w' := by
  have hk : knownB f = true := by cases h : knownB f <;> simp [badB, h] at hb ⊢
  have hcase : modularB f = false ∨ (modularB f = true ∧ p.toList.isEmpty = true) := by
    cases h : modularB f
    · exact .inl rfl
    · exact .inr ⟨rfl, by simpa [badB, hk, h] using hb⟩
  clear hb
  refine (callsIn_wide (n := 5)).1 ?_
  rcases hcase with hm | ⟨hm, hp⟩
  · refine callsIn_of_wp_marks Try.func12 rfl trivial ?_ rfl
    simp only [Try.ntmps12, List.size_toArray, List.length_cons, List.length_nil, Nat.reduceAdd, Nat.reduceSub, Array.replicate_succ, Array.replicate_zero, List.push_toArray, List.append_toArray, List.nil_append, List.cons_append]
    gi_wp2_with (first
      | (refine ⟨trivial, ?_⟩; gi_at_call 24; refine (callsIn_wide.2 (known_any _ _)).mono ?_; rintro e w' ⟨rfl, rfl⟩)
      | (refine ⟨trivial, ?_⟩; gi_at_call 25; refine (callsIn_wide.2 (modular_any _ _)).mono ?_; rintro e w' ⟨rfl, rfl⟩)
      | (refine ⟨trivial, ?_⟩; gi_at_call 26; refine (callsIn_wide.2 (concerning_any a n cap m p f _)).mono ?_; rintro e w1 ⟨rfl, b1, b2, b3, b4, b5, hz, hbw⟩))
    simp only [World.size_alloc] at b1 b2 b3 b4 b5 hz hbw
    have hbw1 : Below w.heap.size w w1 := (((Below.refl _ w).alloc (Nat.le_refl _) (.cells #[.int .i64 (-1)] 3)).alloc (by simp) (.cells #[.int .i64 (-1)] 3)).trans (hbw.mono (by omega))
    have bB : Boxed w1 w.heap.size 3 (.int .i64 (-1)) := (hbw.block _ (by omega)).trans ((Boxed.new w 3 (.int .i64 (-1))).alloc (.cells #[.int .i64 (-1)] 3))
    have bM : Boxed w1 (w.heap.size + 1) 3 (.int .i64 (-1)) := (hbw.block _ (by omega)).trans (by have := Boxed.new (w.alloc (.cells #[.int .i64 (-1)] 3)) 3 (.int .i64 (-1)); rwa [World.size_alloc] at this)
    have hR1 : HRows w.heap.size w1 a rs := hR.out.keep (bcell hbw1).1
    refine wpIn_rangeFunc_ownH rfl (by omega) (gf := 33) (lb := #[.pointer (some ⟨w.heap.size + 1 + 1, 0, none⟩), .pointer (some ⟨w.heap.size + 1 + 1 + 3, 0, none⟩), .pointer (some ⟨w.heap.size + 1 + 1 + 4, 0, none⟩), .pointer (some ⟨w.heap.size + 1 + 1 + 1, 0, none⟩), .pointer (some ⟨w.heap.size + 1 + 1 + 2, 0, none⟩)]) rfl trivial (enters_of Try.func33 (by kernel_rfl) rfl)
      (iter_stops _ _ _ _ _ w.heap.size (w.heap.size + 2) w1.heap.size n cap a rs m p f hn HL w1 (Nat.le_refl _) hbw1.size ⟨by omega, .inr (by omega)⟩ ⟨by omega, .inr (by omega)⟩ ⟨by omega, .inr (by omega)⟩ ⟨by omega, .inr (by omega)⟩ ⟨by omega, .inr (by omega)⟩ b1 b2 b3 b4 b5 hR1)
      KeepsBut.trans (keepsBut_b (Nat.le_refl _)) (Below.refl _ _) (fun _ => rfl)
      (fun pre W => (Boxed W w.heap.size 3 (.int .i64 (bestOf pre).1) ∧ Boxed W (w.heap.size + 1) 3 (.int .i64 (bestOf pre).2)) ∧ (Below w.heap.size w W ∧ w1.heap.size ≤ W.heap.size))
      (fun _ _ _ => False)
      (OwnFrom.and (OwnFrom.and (Own.from (boxed_own _ _ _) _) (Own.from (boxed_own _ _ _) _)) (OwnFrom.and (ownFrom_below (Nat.le_refl _) (by omega)) (fun _ _ _ _ hs hg _ => Nat.le_trans hs hg.size)))
      (fun _ _ _ _ _ hs _ _ => hs)
      ⟨⟨bB, bM⟩, hbw1, Nat.le_refl _⟩
      (fun x a' W => ∃ Bx, w.heap.size + 1 < Bx ∧ Blk W Bx 36 x.1.cells ∧ a' = { tmps := #[.slice a n cap, .string m, .string p, .int .u8 f, undef, undef, undef, undef, .int .i64 0, .int .i64 0, .pointer (some ⟨w.heap.size, 0, none⟩), .pointer (some ⟨w.heap.size + 1, 0, none⟩), .int .i64 x.2, .pointer (some ⟨Bx, 0, none⟩), undef, .int .u8 f, .bool true, .bool false, .bool false, .int .u8 f, .bool false, .bool false, undef, undef, .bool false, .bool false, .slice a n cap, .string m, .string p, .int .u8 f, .func (.func 33) #[] #[.pointer (some ⟨w.heap.size + 1 + 1, 0, none⟩), .pointer (some ⟨w.heap.size + 1 + 1 + 3, 0, none⟩), .pointer (some ⟨w.heap.size + 1 + 1 + 4, 0, none⟩), .pointer (some ⟨w.heap.size + 1 + 1 + 1, 0, none⟩), .pointer (some ⟨w.heap.size + 1 + 1 + 2, 0, none⟩)], .int .i64 x.2, x.1.val, undef, undef, undef, undef, undef, undef, undef, undef], defers := [] })
      (fun x a' _ X Y row hs hg hr => by obtain ⟨Bx, h1, h2, h3⟩ := hs; exact ⟨Bx, h1, blk_own Bx 36 (fun (_ : Unit) => x.1.cells) () X Y row h2 hg (fun r e => (hr r e).2), h3⟩)
      ?assign ?body ?done ?stop
    case assign =>
      rintro l pre ⟨⟨rm, rp, rf, rl, rd⟩, k⟩ W K ⟨⟨bB1, bM1⟩, hB1, hS1⟩ hK
      unfold encs HRow.val
      gi_wp2
      exact hK _ _ ((KeepsOthers.alloc _ _).from _) (KeepsBut.of_below ((Below.refl _ W).alloc (Nat.le_refl _) _) hS1) ⟨⟨bB1.alloc _, bM1.alloc _⟩, hB1.alloc hB1.size _, by simp; omega⟩ ⟨W.heap.size, bM1.lt, Blk.new W _ _, rfl⟩
    case body =>
      rintro l pre ⟨⟨rm, rp, rf, rl, rd⟩, k⟩ a' W hl ⟨r, hr⟩ ⟨⟨bB1, bM1⟩, hB1, hS1⟩ ⟨Bx, hBx, bX, rfl⟩ hlt
      have lB := bB1.lt
      have lM := bM1.lt
      have x0 := bX.cell 0
      have x1 := bX.cell 1
      have x2 := bX.cell 2
      have x3 := bX.cell 3
      have x4 := bX.cell 4
      unfold HRow.cells at x0 x1 x2 x3 x4
      simp at x0 x1 x2 x3 x4
      have cB := bB1.cell
      have fB := bB1.frozen
      have cM := bM1.cell
      have fM := bM1.frozen
      have HB1 := hide hB1
      have hra := hide (fun w => rank_any ⟨rm, rp, rf, rl, rd⟩ w)
      unfold HRow.val HRow.cells at hra
      simp only at hra
      have hst := hide (show bestOf (pre ++ [(⟨rm, rp, rf, rl, rd⟩, k)]) = bestStep (bestOf pre) (⟨rm, rp, rf, rl, rd⟩, k) from bestOf_snoc _ _)
      clear hB1 hr
      unfold HRow.val
      by_cases hlt2 : (bestOf pre).2 < rankZ ⟨rm, rp, rf, rl, rd⟩
      · gi_wp2_with (first
          | (refine ⟨trivial, ?_⟩; gi_at_call 27; refine (CallsIn.inRound l (callsIn_wide.2 (hra.out _))).mono ?_; rintro e w' ⟨rfl, rfl⟩))
        have hv1 : bestOf (pre ++ [(⟨rm, rp, rf, rl, rd⟩, k)]) = ((k : Int), rankZ ⟨rm, rp, rf, rl, rd⟩) := by rw [hst.out]; simp only [bestStep]; rw [if_pos hlt2]
        rw [ownPostG]
        refine ⟨((KeepsOthers.setCell _ _ _).trans ((KeepsOthers.setCell _ _ _).trans (KeepsOthers.alloc _ _))).from _, ?_, ⟨?_, ?_⟩, ?_, ?_⟩
        · exact (((KeepsBut.refl _ _ _ W).setCell (p := ⟨w.heap.size, 0, none⟩) (by simp) (by simp) _).setCell (p := ⟨w.heap.size + 1, 0, none⟩) (by simp) (by simp) _).alloc (by simpa [World.setCell] using hS1) _
        · rw [hv1]; exact ((bB1.set _).other (by omega) _).alloc _
        · rw [hv1]; exact ((bM1.other (by omega) _).set _).alloc _
        · exact ((HB1.out.setCell (p := ⟨w.heap.size, 0, none⟩) (by simp) _).setCell (p := ⟨w.heap.size + 1, 0, none⟩) (by simp) _).alloc (by simpa [World.setCell] using HB1.out.size) _
        · simp [World.setCell]; omega
      · gi_wp2_with (first
          | (refine ⟨trivial, ?_⟩; gi_at_call 27; refine (CallsIn.inRound l (callsIn_wide.2 (hra.out _))).mono ?_; rintro e w' ⟨rfl, rfl⟩))
        have hv1 : bestOf (pre ++ [(⟨rm, rp, rf, rl, rd⟩, k)]) = bestOf pre := by rw [hst.out]; simp only [bestStep]; rw [if_neg (by omega)]
        refine ⟨(KeepsOthers.alloc _ _).from _, (KeepsBut.refl _ _ _ W).alloc hS1 _, ⟨?_, ?_⟩, HB1.out.alloc HB1.out.size _, by simp; omega⟩
        · rw [hv1]; exact bB1.alloc _
        · rw [hv1]; exact bM1.alloc _
    case done =>
      rintro D zs W hD rfl ⟨⟨bB1, bM1⟩, hB1, hS1⟩ hK
      have cS := bB1.cell
      gi_wp2
      refine ⟨by simp, .inl ⟨_, _, rfl, run_takeDeferred hK, ?_⟩⟩
      exact ⟨_, results_tmp2 rfl _ _ _, rfl, hB1.trans (belowK_b (w := w) (Nat.le_refl _) W D _ _ (by omega) hK rfl rfl)⟩
    case stop =>
      rintro D c pre W _ _ h _
      exact h.elim
  · refine callsIn_of_wp_marks Try.func12 rfl trivial ?_ rfl
    simp only [Try.ntmps12, List.size_toArray, List.length_cons, List.length_nil, Nat.reduceAdd, Nat.reduceSub, Array.replicate_succ, Array.replicate_zero, List.push_toArray, List.append_toArray, List.nil_append, List.cons_append]
    gi_wp2_with (first
      | (refine ⟨trivial, ?_⟩; gi_at_call 24; refine (callsIn_wide.2 (known_any _ _)).mono ?_; rintro e w' ⟨rfl, rfl⟩)
      | (refine ⟨trivial, ?_⟩; gi_at_call 25; refine (callsIn_wide.2 (modular_any _ _)).mono ?_; rintro e w' ⟨rfl, rfl⟩)
      | (refine ⟨trivial, ?_⟩; gi_at_call 26; refine (callsIn_wide.2 (concerning_any a n cap m p f _)).mono ?_; rintro e w1 ⟨rfl, b1, b2, b3, b4, b5, hz, hbw⟩))
    simp only [World.size_alloc] at b1 b2 b3 b4 b5 hz hbw
    have hbw1 : Below w.heap.size w w1 := (((Below.refl _ w).alloc (Nat.le_refl _) (.cells #[.int .i64 (-1)] 3)).alloc (by simp) (.cells #[.int .i64 (-1)] 3)).trans (hbw.mono (by omega))
    have bB : Boxed w1 w.heap.size 3 (.int .i64 (-1)) := (hbw.block _ (by omega)).trans ((Boxed.new w 3 (.int .i64 (-1))).alloc (.cells #[.int .i64 (-1)] 3))
    have bM : Boxed w1 (w.heap.size + 1) 3 (.int .i64 (-1)) := (hbw.block _ (by omega)).trans (by have := Boxed.new (w.alloc (.cells #[.int .i64 (-1)] 3)) 3 (.int .i64 (-1)); rwa [World.size_alloc] at this)
    have hR1 : HRows w.heap.size w1 a rs := hR.out.keep (bcell hbw1).1
    refine wpIn_rangeFunc_ownH rfl (by omega) (gf := 33) (lb := #[.pointer (some ⟨w.heap.size + 1 + 1, 0, none⟩), .pointer (some ⟨w.heap.size + 1 + 1 + 3, 0, none⟩), .pointer (some ⟨w.heap.size + 1 + 1 + 4, 0, none⟩), .pointer (some ⟨w.heap.size + 1 + 1 + 1, 0, none⟩), .pointer (some ⟨w.heap.size + 1 + 1 + 2, 0, none⟩)]) rfl trivial (enters_of Try.func33 (by kernel_rfl) rfl)
      (iter_stops _ _ _ _ _ w.heap.size (w.heap.size + 2) w1.heap.size n cap a rs m p f hn HL w1 (Nat.le_refl _) hbw1.size ⟨by omega, .inr (by omega)⟩ ⟨by omega, .inr (by omega)⟩ ⟨by omega, .inr (by omega)⟩ ⟨by omega, .inr (by omega)⟩ ⟨by omega, .inr (by omega)⟩ b1 b2 b3 b4 b5 hR1)
      KeepsBut.trans (keepsBut_b (Nat.le_refl _)) (Below.refl _ _) (fun _ => rfl)
      (fun pre W => (Boxed W w.heap.size 3 (.int .i64 (bestOf pre).1) ∧ Boxed W (w.heap.size + 1) 3 (.int .i64 (bestOf pre).2)) ∧ (Below w.heap.size w W ∧ w1.heap.size ≤ W.heap.size))
      (fun _ _ _ => False)
      (OwnFrom.and (OwnFrom.and (Own.from (boxed_own _ _ _) _) (Own.from (boxed_own _ _ _) _)) (OwnFrom.and (ownFrom_below (Nat.le_refl _) (by omega)) (fun _ _ _ _ hs hg _ => Nat.le_trans hs hg.size)))
      (fun _ _ _ _ _ hs _ _ => hs)
      ⟨⟨bB, bM⟩, hbw1, Nat.le_refl _⟩
      (fun x a' W => ∃ Bx, w.heap.size + 1 < Bx ∧ Blk W Bx 36 x.1.cells ∧ a' = { tmps := #[.slice a n cap, .string m, .string p, .int .u8 f, undef, undef, undef, undef, .int .i64 0, .int .i64 0, .pointer (some ⟨w.heap.size, 0, none⟩), .pointer (some ⟨w.heap.size + 1, 0, none⟩), .int .i64 x.2, .pointer (some ⟨Bx, 0, none⟩), undef, .int .u8 f, .bool true, .bool false, .bool false, .int .u8 f, .bool true, .bool true, .string p, .bool false, .bool false, .bool false, .slice a n cap, .string m, .string p, .int .u8 f, .func (.func 33) #[] #[.pointer (some ⟨w.heap.size + 1 + 1, 0, none⟩), .pointer (some ⟨w.heap.size + 1 + 1 + 3, 0, none⟩), .pointer (some ⟨w.heap.size + 1 + 1 + 4, 0, none⟩), .pointer (some ⟨w.heap.size + 1 + 1 + 1, 0, none⟩), .pointer (some ⟨w.heap.size + 1 + 1 + 2, 0, none⟩)], .int .i64 x.2, x.1.val, undef, undef, undef, undef, undef, undef, undef, undef], defers := [] })
      (fun x a' _ X Y row hs hg hr => by obtain ⟨Bx, h1, h2, h3⟩ := hs; exact ⟨Bx, h1, blk_own Bx 36 (fun (_ : Unit) => x.1.cells) () X Y row h2 hg (fun r e => (hr r e).2), h3⟩)
      ?assign ?body ?done ?stop
    case assign =>
      rintro l pre ⟨⟨rm, rp, rf, rl, rd⟩, k⟩ W K ⟨⟨bB1, bM1⟩, hB1, hS1⟩ hK
      unfold encs HRow.val
      gi_wp2
      exact hK _ _ ((KeepsOthers.alloc _ _).from _) (KeepsBut.of_below ((Below.refl _ W).alloc (Nat.le_refl _) _) hS1) ⟨⟨bB1.alloc _, bM1.alloc _⟩, hB1.alloc hB1.size _, by simp; omega⟩ ⟨W.heap.size, bM1.lt, Blk.new W _ _, rfl⟩
    case body =>
      rintro l pre ⟨⟨rm, rp, rf, rl, rd⟩, k⟩ a' W hl ⟨r, hr⟩ ⟨⟨bB1, bM1⟩, hB1, hS1⟩ ⟨Bx, hBx, bX, rfl⟩ hlt
      have lB := bB1.lt
      have lM := bM1.lt
      have x0 := bX.cell 0
      have x1 := bX.cell 1
      have x2 := bX.cell 2
      have x3 := bX.cell 3
      have x4 := bX.cell 4
      unfold HRow.cells at x0 x1 x2 x3 x4
      simp at x0 x1 x2 x3 x4
      have cB := bB1.cell
      have fB := bB1.frozen
      have cM := bM1.cell
      have fM := bM1.frozen
      have HB1 := hide hB1
      have hra := hide (fun w => rank_any ⟨rm, rp, rf, rl, rd⟩ w)
      unfold HRow.val HRow.cells at hra
      simp only at hra
      have hst := hide (show bestOf (pre ++ [(⟨rm, rp, rf, rl, rd⟩, k)]) = bestStep (bestOf pre) (⟨rm, rp, rf, rl, rd⟩, k) from bestOf_snoc _ _)
      clear hB1 hr
      unfold HRow.val
      by_cases hlt2 : (bestOf pre).2 < rankZ ⟨rm, rp, rf, rl, rd⟩
      · gi_wp2_with (first
          | (refine ⟨trivial, ?_⟩; gi_at_call 27; refine (CallsIn.inRound l (callsIn_wide.2 (hra.out _))).mono ?_; rintro e w' ⟨rfl, rfl⟩))
        have hv1 : bestOf (pre ++ [(⟨rm, rp, rf, rl, rd⟩, k)]) = ((k : Int), rankZ ⟨rm, rp, rf, rl, rd⟩) := by rw [hst.out]; simp only [bestStep]; rw [if_pos hlt2]
        rw [ownPostG]
        refine ⟨((KeepsOthers.setCell _ _ _).trans ((KeepsOthers.setCell _ _ _).trans (KeepsOthers.alloc _ _))).from _, ?_, ⟨?_, ?_⟩, ?_, ?_⟩
        · exact (((KeepsBut.refl _ _ _ W).setCell (p := ⟨w.heap.size, 0, none⟩) (by simp) (by simp) _).setCell (p := ⟨w.heap.size + 1, 0, none⟩) (by simp) (by simp) _).alloc (by simpa [World.setCell] using hS1) _
        · rw [hv1]; exact ((bB1.set _).other (by omega) _).alloc _
        · rw [hv1]; exact ((bM1.other (by omega) _).set _).alloc _
        · exact ((HB1.out.setCell (p := ⟨w.heap.size, 0, none⟩) (by simp) _).setCell (p := ⟨w.heap.size + 1, 0, none⟩) (by simp) _).alloc (by simpa [World.setCell] using HB1.out.size) _
        · simp [World.setCell]; omega
      · gi_wp2_with (first
          | (refine ⟨trivial, ?_⟩; gi_at_call 27; refine (CallsIn.inRound l (callsIn_wide.2 (hra.out _))).mono ?_; rintro e w' ⟨rfl, rfl⟩))
        have hv1 : bestOf (pre ++ [(⟨rm, rp, rf, rl, rd⟩, k)]) = bestOf pre := by rw [hst.out]; simp only [bestStep]; rw [if_neg (by omega)]
        refine ⟨(KeepsOthers.alloc _ _).from _, (KeepsBut.refl _ _ _ W).alloc hS1 _, ⟨?_, ?_⟩, HB1.out.alloc HB1.out.size _, by simp; omega⟩
        · rw [hv1]; exact bB1.alloc _
        · rw [hv1]; exact bM1.alloc _
    case done =>
      rintro D zs W hD rfl ⟨⟨bB1, bM1⟩, hB1, hS1⟩ hK
      have cS := bB1.cell
      gi_wp2
      refine ⟨by simp, .inl ⟨_, _, rfl, run_takeDeferred hK, ?_⟩⟩
      exact ⟨_, results_tmp2 rfl _ _ _, rfl, hB1.trans (belowK_b (w := w) (Nat.le_refl _) W D _ _ (by omega) hK rfl rfl)⟩
    case stop =>
      rintro D c pre W _ _ h _
      exact h.elim
end Go.Proofs.Ytojmcgobihegpaa
