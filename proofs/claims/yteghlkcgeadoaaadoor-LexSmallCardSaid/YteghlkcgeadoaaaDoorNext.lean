/-
  lex: (*scanner).next.
-/
import Derived.Test.YteghlkcgeadoaaaDoorNum
import Derived.StillTailTactics
namespace Go.Proofs.YteghlkcgeadoaaaDoor
open Go.RowKit
attribute [local go_sem] Later.cell
def signT : UInt8 → Bool := amgB ⟨#[123, 125, 59, 44, 46, 58]⟩
theorem letT_eq (b : UInt8) : letT b = letterB b := rfl
theorem digT_eq (b : UInt8) : btwB 48 57 b = digitB b := rfl
theorem signT_eq (b : UInt8) : signT b = signB b := by
  show [123, 125, 59, 44, 46, 58].contains b = signB b
  simp only [signB, List.contains_cons, List.contains_nil, Bool.or_false, Bool.or_assoc]
/-- A scanner over src in block sb: its tests. -/
structure Sc (sb : Nat) (src : ByteArray) (F : Nat → Prop) (g1 g2 g3 : Nat) (c1 c2 c3 : Array Value) (w : World) : Prop where
  s0 : w.cell? ⟨sb, 0, none⟩ = some (.string src)
  s3 : w.cell? ⟨sb, 3, none⟩ = some (.func (.func g1) #[] c1)
  s4 : w.cell? ⟨sb, 4, none⟩ = some (.func (.func g2) #[] c2)
  s5 : w.cell? ⟨sb, 5, none⟩ = some (.func (.func g3) #[] c3)
  i1 : IsT F w g1 c1 letT
  i2 : IsT F w g2 c2 (btwB 48 57)
  i3 : IsT F w g3 c3 signT
  far : ∀ k, F k → k ≠ sb
theorem Sc.atJ {sb j : Nat} {src : ByteArray} {F : Nat → Prop} {g1 g2 g3 : Nat} {c1 c2 c3 : Array Value} {w w' : World} (h : Sc sb src F g1 g2 g3 c1 c2 c3 w) (k : AtJ sb j w w') : Sc sb src F g1 g2 g3 c1 c2 c3 w' :=
  ⟨(k.rest 0 (by decide)).trans h.s0, (k.rest 3 (by decide)).trans h.s3, (k.rest 4 (by decide)).trans h.s4, (k.rest 5 (by decide)).trans h.s5, h.i1.atJ h.far k, h.i2.atJ h.far k, h.i3.atJ h.far k, h.far⟩
def kindOf (b : UInt8) : Nat := if letterB b then 1 else if digitB b then 2 else 3
theorem AtJ.set {sb i : Nat} {W w : World} (h : AtJ sb i W w) (_hsb : sb < W.heap.size) (j : Nat) : AtJ sb j W (w.setCell ⟨sb, 1, none⟩ (.int .i64 (j : Int))) := by
  refine ⟨h.kept.setCell (p := ⟨sb, 1, none⟩) (Or.inl rfl) _, World.cell?_setCell_same w _ _ h.here, fun o ho => ?_, by rw [World.frozen?_setCell]; exact h.free⟩
  rw [World.cell?_setCell_other w _ _ _ (fun e => ho (by injection e with _ e2 _; exact e2.symm))]
  exact h.rest o ho
def emptyS : ByteArray := ⟨#[]⟩
/-- The state of next at the head of its loop and behind it. -/
structure NxR (sb p j : Nat) (src : ByteArray) (W : World) (κ : Nat) (w : World) : Prop where
  atJ : AtJ sb p W w
  t0 : w.heap[W.heap.size]? = some (.cells #[.int .u8 0, .string ⟨#[]⟩, .int .i64 0] 45 (0, 0))
  t1 : w.heap[W.heap.size + 1]? = some (.cells #[.int .u8 (κ : Int), .string ⟨#[]⟩, .int .i64 (j : Int)] 45 (0, 0))
theorem keepB {w w' : World} {x : Nat} {o : Obj} (h : w.heap[x]? = some o) (hb : Below w.heap.size w w') : w'.heap[x]? = some o := (hb.block _ (Array.getElem?_eq_some_iff.1 h).1).trans h
theorem NxR.below {sb p j : Nat} {src : ByteArray} {W : World} {κ : Nat} {w w' : World} (h : NxR sb p j src W κ w) (hsb : sb < W.heap.size) (hb : Below w.heap.size w w') : NxR sb p j src W κ w' :=
  ⟨h.atJ.below hsb hb, keepB h.t0 hb, keepB h.t1 hb⟩
theorem AtJ.new {sb j : Nat} {W w : World} (h : AtJ sb j W w) (hsb : sb < W.heap.size) {p : Addr} (hp : W.heap.size ≤ p.block) (u : Value) : AtJ sb j W (w.setCell p u) := by
  refine ⟨h.kept.setCell (.inr hp) u, ?_, fun o ho => ?_, ?_⟩
  · rw [World.cell?_setCell_other w _ _ _ (fun e => by have := congrArg Addr.block e; simp at this; omega)]; exact h.here
  · rw [World.cell?_setCell_other w _ _ _ (fun e => by have := congrArg Addr.block e; simp at this; omega)]; exact h.rest o ho
  · rw [World.frozen?_setCell]; exact h.free
theorem NxR.next {sb p j : Nat} {src : ByteArray} {W : World} {κ : Nat} {w : World} (h : NxR sb p j src W κ w) (hsb : sb < W.heap.size) : NxR sb p j src W (κ + 1) (w.setCell ⟨W.heap.size + 1, 0, none⟩ (.int .u8 ((κ : Int) + 1))) := by
  refine ⟨h.atJ.new hsb (by simp) _, ?_, ?_⟩
  · exact (Below.heap_setCell _ _ _ _ (by simp)).trans h.t0
  · exact heap_setCell_same w (W.heap.size + 1) 0 _ _ _ h.t1
theorem NxR.set {sb p j : Nat} {src : ByteArray} {W : World} {κ : Nat} {w : World} (h : NxR sb p j src W κ w) (hsb : sb < W.heap.size) (i : Nat) : NxR sb i j src W κ (w.setCell ⟨sb, 1, none⟩ (.int .i64 (i : Int))) :=
  ⟨h.atJ.set hsb i, (Below.heap_setCell _ _ _ _ (by show W.heap.size ≠ sb; omega)).trans h.t0, (Below.heap_setCell _ _ _ _ (by show W.heap.size + 1 ≠ sb; omega)).trans h.t1⟩
theorem NxR.to {sb p q j : Nat} {src : ByteArray} {W : World} {κ : Nat} {w w' : World} (h : NxR sb p j src W κ w) (hsb : sb < W.heap.size) (k : AtJ sb q w w') : NxR sb q j src W κ w' := by
  have s0 := (Array.getElem?_eq_some_iff.1 h.t0).1
  have s1 := (Array.getElem?_eq_some_iff.1 h.t1).1
  exact ⟨h.atJ.trans k, (k.kept.block _ s0 (by omega)).trans h.t0, (k.kept.block _ s1 (by omega)).trans h.t1⟩
theorem three_of {w : World} {x : Nat} {a b c : Value} {t : TypeId} (h : w.heap[x]? = some (.cells #[a, b, c] t (0, 0))) : w.cell? ⟨x, 0, none⟩ = some a ∧ w.cell? ⟨x, 1, none⟩ = some b ∧ w.cell? ⟨x, 2, none⟩ = some c ∧
    w.frozen? ⟨x, 0, none⟩ = false ∧ w.frozen? ⟨x, 1, none⟩ = false ∧ w.frozen? ⟨x, 2, none⟩ = false ∧ x < w.heap.size := by
  have c0 := cell_of_row w x 0 _ _ _ h
  have c1 := cell_of_row w x 1 _ _ _ h
  have c2 := cell_of_row w x 2 _ _ _ h
  simp only [List.getElem?_toArray, List.getElem?_cons_zero, List.getElem?_cons_succ] at c0 c1 c2
  exact ⟨c0, c1, c2, frozen_of_row w x 0 _ _ h, frozen_of_row w x 1 _ _ h, frozen_of_row w x 2 _ _ h, (Array.getElem?_eq_some_iff.1 h).1⟩
def kOf (x : Nat) (w : World) : Nat := (intOf ((w.cell? ⟨x, 0, none⟩).getD (.int .u8 0))).toNat
theorem NxR.kOf {sb p j : Nat} {src : ByteArray} {W : World} {κ : Nat} {w : World} (h : NxR sb p j src W κ w) : kOf (W.heap.size + 1) w = κ := by
  unfold Go.Proofs.YteghlkcgeadoaaaDoor.kOf
  rw [(three_of h.t1).1]
  simp [intOf]
theorem tok_cons (src : ByteArray) (j : Nat) (hj : j < src.size) : tokN ((toksL src).drop j) = tokN (src[j] :: (toksL src).drop (j + 1)) := by rw [toksL_drop src j hj]
theorem tok_bad (src : ByteArray) (j : Nat) (hj : j < src.size) (h1 : letterB src[j] = false) (h2 : digitB src[j] = false) (h3 : signT src[j] = false) : tokN ((toksL src).drop j) = (3, 0, 70) := by
  rw [tok_cons src j hj]; unfold tokN
  rw [signT_eq] at h3
  simp [h1, h2, h3]
theorem tok_sign (src : ByteArray) (j : Nat) (hj : j < src.size) (h1 : letterB src[j] = false) (h2 : digitB src[j] = false) (h3 : signT src[j] = true) : tokN ((toksL src).drop j) = (3, 1, 0) := by
  rw [tok_cons src j hj]; unfold tokN
  rw [signT_eq] at h3
  simp [h1, h2, h3]
theorem run_to (src : ByteArray) (j : Nat) : runTo innerB src (j + 1) = j + 1 + runN ((toksL src).drop (j + 1)) := rfl
theorem tok_word (src : ByteArray) (j : Nat) (hj : j < src.size) (h1 : letterB src[j] = true) : tokN ((toksL src).drop j) = (1, runTo innerB src (j + 1) - j, if 24 < runTo innerB src (j + 1) - j then 71 else 0) := by
  rw [tok_cons src j hj, run_to, show j + 1 + runN ((toksL src).drop (j + 1)) - j = 1 + runN ((toksL src).drop (j + 1)) from by omega]
  unfold tokN
  simp only [h1, if_true]
  split <;> rfl
theorem tok_num (src : ByteArray) (j : Nat) (hj : j < src.size) (h1 : letterB src[j] = false) (h2 : digitB src[j] = true) : tokN ((toksL src).drop j) = (2, runTo innerB src (j + 1) - j, if numB (src[j] :: ((toksL src).drop (j + 1)).take (runN ((toksL src).drop (j + 1)))) then 0 else 72) := by
  rw [tok_cons src j hj, run_to, show j + 1 + runN ((toksL src).drop (j + 1)) - j = 1 + runN ((toksL src).drop (j + 1)) from by omega]
  unfold tokN
  simp only [h1, h2, if_true]
  simp only [Bool.false_eq_true, if_false]
  split <;> rfl
theorem inner_any (g1 g2 n : Nat) (k1 k2 k5 : Array Value) : anyT [⟨g1, k1, letT⟩, ⟨g2, k2, btwB 48 57⟩, ⟨n, k5, amgB ⟨#[95]⟩⟩] = innerB := by
  funext b
  have h : amgB ⟨#[95]⟩ b = (b == 95) := by
    show [95].contains b = (b == 95)
    simp only [List.contains_cons, List.contains_nil, Bool.or_false]
  simp only [anyT, List.any_cons, List.any_nil, Bool.or_false, letT_eq, digT_eq, h, innerB, Bool.or_assoc]
theorem IsT.grow {F G : Nat → Prop} {w w' : World} {f : Nat} {caps : Array Value} {p : UInt8 → Bool} (h : IsT F w f caps p) (hb : Below w.heap.size w w') (hG : ∀ k, F k → G k) (hlt : ∀ k, G k → k < w'.heap.size) : IsT G w' f caps p := (h.below hb).wide hG hlt
/-- The tests of a token's inner bytes, as either gets them. -/
theorem inner_tests {F : Nat → Prop} {wy w1 : World} {g1 g2 a5 : Nat} {k1 k2 k5 : Array Value} (H1 : IsT F wy g1 k1 letT) (H2 : IsT F wy g2 k2 (btwB 48 57)) (hb : Below wy.heap.size wy w1) (H5 : IsT (fun k => k = wy.heap.size) w1 a5 k5 (amgB ⟨#[95]⟩)) (o : Obj) :
    (∀ t ∈ ([⟨g1, k1, letT⟩, ⟨g2, k2, btwB 48 57⟩, ⟨a5, k5, amgB ⟨#[95]⟩⟩] : List TB), IsT (fun k => F k ∨ k = wy.heap.size) (w1.alloc o) t.f t.caps t.p) ∧ (∀ k, (F k ∨ k = wy.heap.size) → k < (w1.alloc o).heap.size) := by
  have hb2 : Below w1.heap.size w1 (w1.alloc o) := (Below.refl _ _).alloc (Nat.le_refl _) _
  have hG : ∀ k, (F k ∨ k = wy.heap.size) → k < (w1.alloc o).heap.size := by
    intro k hk
    have := hb.size
    rcases hk with hk | rfl
    · have := H1.inn k hk; simp; omega
    · have := H5.inn _ rfl; simp; omega
  refine ⟨fun t ht => ?_, hG⟩
  simp only [List.mem_cons, List.not_mem_nil, or_false] at ht
  rcases ht with rfl | rfl | rfl
  · exact (H1.below hb).grow hb2 (fun k h => .inl h) hG
  · exact (H2.below hb).grow hb2 (fun k h => .inl h) hG
  · exact H5.grow hb2 (fun k h => .inr h) hG
theorem far3 {F : Nat → Prop} {sb x y z : Nat} (hF : ∀ k, F k → k ≠ sb) (h1 : sb < x) (h2 : sb < y) (h3 : sb < z) (k : Nat) (hk : (F k ∨ k = x) ∨ k = y ∨ k = z) : k ≠ sb := by
  rcases hk with (hk | rfl) | rfl | rfl
  · exact hF k hk
  all_goals omega
set_option maxRecDepth 100000 in
set_option maxHeartbeats 2000000 in
theorem next_any (sb j : Nat) (src : ByteArray) (F : Nat → Prop) (g1 g2 g3 : Nat) (k1 k2 k3 : Array Value) (W : World) (h4 : 4 ≤ sb) (hS : Hid (Sc sb src F g1 g2 g3 k1 k2 k3 W)) (hj : j < src.size) (hs : src.size ≤ 1099511627776)
    (c1 : Hid (W.cell? ⟨sb, 1, none⟩ = some (.int .i64 (j : Int)))) (cf : Hid (W.frozen? ⟨sb, 1, none⟩ = false)) (hE : Hid (Env W)) (kd ln er : Nat) (htok : Hid (tokN ((toksL src).drop j) = (kd, ln, er))) :
    Calls Tryd.prog 31 #[.pointer (some ⟨sb, 0, none⟩)] W fun e W' => e = .returned (.tuple #[.agg #[.int .u8 (kd : Int), .string (src.extract j (j + ln)), .int .i64 (j : Int)], .int .i64 (er : Int)]) ∧ AtJ sb (j + ln) W W' := by
  have hsb : sb < W.heap.size := World.block_lt_of_cell? W ⟨sb, 1, none⟩ c1.out
  have HJ0 := hide (AtJ.start c1.out cf.out)
  have HA := hide (fun s w => among_any s w)
  have d1 := c1.out
  go_enter Tryd.func31, Tryd.ntmps31
  go_wp2_with fail
  clear d1
  have HN0 : Hid (NxR sb j j src W 1 ((W.alloc (.cells #[.int .u8 0, .string ⟨#[]⟩, .int .i64 0] 45)).alloc (.cells #[.int .u8 1, .string ⟨#[]⟩, .int .i64 (j : Int)] 45))) := by
    refine hide ⟨HJ0.out.below hsb (((Below.refl _ _).alloc (Nat.le_refl _) _).alloc (by simp) _), (Below.heap_alloc _ _ _ (by simp)).trans (heap_alloc_new W _), ?_⟩
    have := heap_alloc_new (W.alloc (.cells #[.int .u8 0, .string ⟨#[]⟩, .int .i64 0] 45)) (.cells #[.int .u8 1, .string ⟨#[]⟩, .int .i64 (j : Int)] 45)
    rw [World.size_alloc] at this
    exact this
  go_loopw [] (fun wr => ∃ κ : Nat, (κ = 1 ∨ (κ = 2 ∧ letterB src[j] = false) ∨ (κ = 3 ∧ letterB src[j] = false ∧ digitB src[j] = false)) ∧ NxR sb j j src W κ wr) (fun wr => 3 - kOf (W.heap.size + 1) wr)
  case atStart => exact ⟨1, .inl rfl, HN0.out⟩
  case round =>
    obtain ⟨κ, hκ, hR⟩ := hrel
    have HR := hide hR
    have HS := hide (hS.out.atJ hR.atJ)
    have d0 := HS.out.s0
    have d1 := hR.atJ.here
    have hwr : sb < wr.heap.size := World.block_lt_of_cell? wr ⟨sb, 1, none⟩ d1
    obtain ⟨x0, -, -, -, -, -, hx1⟩ := three_of hR.t1
    clear hR HN0
    rcases hκ with rfl | ⟨rfl, hl⟩ | ⟨rfl, hl, hd⟩
    · have d3 := HS.out.s3
      cases hl : letterB src[j]
      · have HL := hide hl
        have HC := hide (fun s : Later wr => more_v sb _ j _ _ F src s.w ((s.below.cell (p := ⟨sb, 0, none⟩) hwr).trans d0) ((s.below.cell (p := ⟨sb, 1, none⟩) hwr).trans d1) hj hs (hide (HS.out.i1.below s.below)) false hl)
        go_wp2_with fail
        refine wp_region_later (by kernel_rfl) (by kernel_rfl) ?_
        repeat (go_big_quiet_step (exact Later.call (HC.out _)))
        refine wpQuiet_nil ?_
        intro _ hw'
        obtain ⟨nq, hw''⟩ := hw'
        subst hw''
        have HX := hide (HR.out.below hsb nq.below)
        generalize nq.w = wx at *
        clear HC d0 d1 d3 x0
        obtain ⟨x0, x1, x2, y0, y1, y2, xl⟩ := three_of HX.out.t1
        obtain ⟨z0, z1, z2, r0, r1, r2, zl⟩ := three_of HX.out.t0
        clear hl
        go_wp2_with fail
        have HK := hide (HX.out.next hsb)
        have HM := hide (show 3 - kOf (W.heap.size + 1) (wx.setCell ⟨W.heap.size + 1, 0, none⟩ (.int .u8 (((1 : Nat) : Int) + 1))) < 3 - kOf (W.heap.size + 1) wr by rw [HK.out.kOf, HR.out.kOf]; omega)
        go_roundw
        case rel => exact ⟨2, .inr (.inl ⟨rfl, by first | trivial | exact HL.out⟩), HK.out⟩
        case measure => exact HM.out
      ·
        have HC := hide (fun s : Later wr => more_v sb _ j _ _ F src s.w ((s.below.cell (p := ⟨sb, 0, none⟩) hwr).trans d0) ((s.below.cell (p := ⟨sb, 1, none⟩) hwr).trans d1) hj hs (hide (HS.out.i1.below s.below)) true hl)
        go_wp2_with fail
        refine wp_region_later (by kernel_rfl) (by kernel_rfl) ?_
        repeat (go_big_quiet_step (exact Later.call (HC.out _)))
        refine wpQuiet_nil ?_
        intro _ hw'
        obtain ⟨nq, hw''⟩ := hw'
        subst hw''
        have HX := hide (HR.out.below hsb nq.below)
        generalize nq.w = wx at *
        clear HC d0 d1 d3 x0
        obtain ⟨x0, x1, x2, y0, y1, y2, xl⟩ := three_of HX.out.t1
        obtain ⟨z0, z1, z2, r0, r1, r2, zl⟩ := three_of HX.out.t0
        have HL := hide hl
        clear hl
        have d1 := HX.out.atJ.here
        have f1 := HX.out.atJ.free
        have hxs := HX.out.atJ.kept.size
        go_wp2_with fail
        have HY := hide (HX.out.set hsb (j + 1))
        have e1 : ((j + 1 : Nat) : Int) = (j : Int) + 1 := by omega
        rw [e1] at HY
        clear e1
        generalize wx.setCell ⟨sb, 1, none⟩ (.int .i64 ((j : Int) + 1)) = wy at *
        clear x0 x1 x2 y0 y1 y2 xl z0 z1 z2 r0 r1 r2 zl d1 f1
        have HSY := hide (hS.out.atJ HY.out.atJ)
        have q3 := HSY.out.s3
        have q4 := HSY.out.s4
        have hys : W.heap.size ≤ wy.heap.size := HY.out.atJ.kept.size
        have hsy : sb < wy.heap.size := by omega
        go_region_held3 (fun w' => w'.cell? ⟨sb, 3, none⟩ = some (.func (.func g1) #[] k1) ∧ w'.cell? ⟨sb, 4, none⟩ = some (.func (.func g2) #[] k2)) (go_keep)
          (first
            | (go_at_call 28; refine (HA.out _ _).mono ?_; rintro e w1 ⟨k5, rfl, hT1, hb1⟩; have hb1' : Below wy.heap.size wy w1 := ((Below.refl _ _).drew).trans hb1; have p3 := (hb1'.cell (p := ⟨sb, 3, none⟩) hsy).trans q3; have p4 := (hb1'.cell (p := ⟨sb, 4, none⟩) hsy).trans q4; have h1y := hb1'.size; have h1z : sb < w1.heap.size := (by omega); have HT1 : Hid (IsT (fun k => k = wy.heap.size) w1 41 k5 (amgB ⟨#[95]⟩)) := hide hT1; have HB1 := hide hb1'; clear hT1 hb1 hb1')
            | (go_at_call 26; refine (either_any w1.heap.size [⟨g1, k1, letT⟩, ⟨g2, k2, btwB 48 57⟩, ⟨41, k5, amgB ⟨#[95]⟩⟩] (fun k => F k ∨ k = wy.heap.size) _ (by simp) (hide (heap_alloc_new w1 _)) (hide (inner_tests HSY.out.i1 HSY.out.i2 HB1.out HT1.out _).1) (inner_tests HSY.out.i1 HSY.out.i2 HB1.out HT1.out _).2).mono ?_; rintro e w2 ⟨k6, rfl, hT2, hb2⟩; have hb2' : Below w1.heap.size w1 w2 := ((Below.refl _ _).alloc (Nat.le_refl _) _).trans (hb2.mono (by simp)); have p5 := (hb2'.cell (p := ⟨sb, 3, none⟩) h1z).trans p3; have p6 := (hb2'.cell (p := ⟨sb, 4, none⟩) h1z).trans p4; rw [inner_any] at hT2; have HT2 := hide hT2; have HF2 := hide (fun k (hk : (F k ∨ k = wy.heap.size) ∨ k = w1.heap.size ∨ k = (w1.alloc (Obj.cells #[.func (.func g1) #[] k1, .func (.func g2) #[] k2, .func (.func 41) #[] k5] 49)).heap.size) => far3 HSY.out.far hsy h1z (by simp; omega) k hk); have HY2 := hide ((HY.out.below hsb HB1.out).below hsb hb2'); clear hT2 hb2 hb2')
            | (go_at_call 43; refine (while_any sb _ (j + 1) _ innerB _ src w2 (hide ((HY2.out.atJ.rest 0 (by decide)).trans hS.out.s0)) (hide HY2.out.atJ.here) (hide HY2.out.atJ.free) hj hs HT2 HF2).mono ?_; rintro e w3 ⟨rfl, hJ3⟩; have p7 := (hJ3.rest 3 (by decide)).trans p5; have p8 := (hJ3.rest 4 (by decide)).trans p6; have HY3 := hide (HY2.out.to hsb hJ3); clear hJ3))
        clear p3 p4 p5 p6 p7 p8 q3 q4 h1y h1z HT1 HT2 HB1 HF2 HY2
        have hq0 := (runTo_le innerB src (j + 1) hj).1
        have hq1 := (runTo_le innerB src (j + 1) hj).2
        generalize hq : runTo innerB src (j + 1) = q at *
        have HQ := hide hq
        clear hq
        generalize w3 = v3 at *
        have HE3 : Hid (Env v3) := hide (hE.out.keptB (HY3.out.atJ.kept.below (B := sb) (Nat.le_of_lt hsb) (fun i hi e => by omega)) h4)
        obtain ⟨x0, x1, x2, y0, y1, y2, xl⟩ := three_of HY3.out.t1
        obtain ⟨z0, z1, z2, r0, r1, r2, zl⟩ := three_of HY3.out.t0
        have d0 := (HY3.out.atJ.rest 0 (by decide)).trans hS.out.s0
        have d1 := HY3.out.atJ.here
        have i0 : (0 : Int) ≤ (j : Int) := by omega
        have i1 : (j : Int) ≤ (q : Int) := by omega
        have i2 : (q : Int) ≤ (src.size : Int) := by omega
        go_wp2_with fail
        go_still_tail 14, (by kernel_rfl)
        generalize htx : src.extract j q = tx at *
        have hsz : tx.size = q - j := by rw [← htx, ByteArray.size_extract]; omega
        have HTX := hide htx
        have HSZ := hide hsz
        clear htx d0 d1 x0 x2 y0 y2 z0 z1 z2
        have HJ4 := hide (HY3.out.atJ.below hsb ((Below.refl _ _).drew))
        obtain ⟨x0, x1, x2, y0, y1, y2, xl⟩ := three_of HY3.out.t1
        obtain ⟨z0, z1, z2, r0, r1, r2, zl⟩ := three_of HY3.out.t0
        change wpList _ _ _ _ _ v3.drew
        by_cases hlen : 24 < tx.size
        · have ht := htok.out.symm.trans (tok_word src j hj HL.out)
          rw [HQ.out, if_pos (by rw [← HSZ.out]; exact hlen)] at ht
          have HTK := hide ht
          clear ht
          go_wp2_with fail
          refine bodyPost_ret (v := .tuple #[.agg #[.int .u8 1, .string tx, .int .i64 (j : Int)], .int .i64 71]) (by simp [results, Tryd.results31, go_sem, z0, z1, z2]) rfl ?_
          have ht := HTK.out
          simp only [Prod.mk.injEq] at ht
          obtain ⟨rfl, rfl, rfl⟩ := ht
          rw [show j + (q - j) = q from by omega]
          refine ⟨by rw [HTX.out]; rfl, ?_⟩
          exact (((HJ4.out.new hsb (by simp) _).new hsb (by simp) _).new hsb (by simp) _).new hsb (by simp) _
        · have ht := htok.out.symm.trans (tok_word src j hj HL.out)
          rw [HQ.out, if_neg (by rw [← HSZ.out]; exact hlen)] at ht
          have HTK := hide ht
          clear ht
          go_wp2_with fail
          refine bodyPost_ret (v := .tuple #[.agg #[.int .u8 1, .string tx, .int .i64 (j : Int)], .int .i64 0]) (by simp [results, Tryd.results31, go_sem, z0, z1, z2]) rfl ?_
          have ht := HTK.out
          simp only [Prod.mk.injEq] at ht
          obtain ⟨rfl, rfl, rfl⟩ := ht
          rw [show j + (q - j) = q from by omega]
          refine ⟨by rw [HTX.out]; rfl, ?_⟩
          exact (((HJ4.out.new hsb (by simp) _).new hsb (by simp) _).new hsb (by simp) _).new hsb (by simp) _
    · have d3 := HS.out.s4
      cases hd : digitB src[j]
      · have HL := hide hl
        have HD := hide hd
        have HC := hide (fun s : Later wr => more_v sb _ j _ _ F src s.w ((s.below.cell (p := ⟨sb, 0, none⟩) hwr).trans d0) ((s.below.cell (p := ⟨sb, 1, none⟩) hwr).trans d1) hj hs (hide (HS.out.i2.below s.below)) false hd)
        go_wp2_with fail
        refine wp_region_later (by kernel_rfl) (by kernel_rfl) ?_
        repeat (go_big_quiet_step (exact Later.call (HC.out _)))
        refine wpQuiet_nil ?_
        intro _ hw'
        obtain ⟨nq, hw''⟩ := hw'
        subst hw''
        have HX := hide (HR.out.below hsb nq.below)
        generalize nq.w = wx at *
        clear HC d0 d1 d3 x0
        obtain ⟨x0, x1, x2, y0, y1, y2, xl⟩ := three_of HX.out.t1
        obtain ⟨z0, z1, z2, r0, r1, r2, zl⟩ := three_of HX.out.t0
        clear hl hd
        go_wp2_with fail
        have HK := hide (HX.out.next hsb)
        have HM := hide (show 3 - kOf (W.heap.size + 1) (wx.setCell ⟨W.heap.size + 1, 0, none⟩ (.int .u8 (((2 : Nat) : Int) + 1))) < 3 - kOf (W.heap.size + 1) wr by rw [HK.out.kOf, HR.out.kOf]; omega)
        go_roundw
        case rel => exact ⟨3, .inr (.inr ⟨rfl, by first | trivial | exact HL.out, by first | trivial | exact HD.out⟩), HK.out⟩
        case measure => exact HM.out
      ·
        have HC := hide (fun s : Later wr => more_v sb _ j _ _ F src s.w ((s.below.cell (p := ⟨sb, 0, none⟩) hwr).trans d0) ((s.below.cell (p := ⟨sb, 1, none⟩) hwr).trans d1) hj hs (hide (HS.out.i2.below s.below)) true hd)
        go_wp2_with fail
        refine wp_region_later (by kernel_rfl) (by kernel_rfl) ?_
        repeat (go_big_quiet_step (exact Later.call (HC.out _)))
        refine wpQuiet_nil ?_
        intro _ hw'
        obtain ⟨nq, hw''⟩ := hw'
        subst hw''
        have HX := hide (HR.out.below hsb nq.below)
        generalize nq.w = wx at *
        clear HC d0 d1 d3 x0
        obtain ⟨x0, x1, x2, y0, y1, y2, xl⟩ := three_of HX.out.t1
        obtain ⟨z0, z1, z2, r0, r1, r2, zl⟩ := three_of HX.out.t0
        have HL := hide hl
        have HD := hide hd
        clear hl hd
        have d1 := HX.out.atJ.here
        have f1 := HX.out.atJ.free
        have hxs := HX.out.atJ.kept.size
        go_wp2_with fail
        have HY := hide (HX.out.set hsb (j + 1))
        have e1 : ((j + 1 : Nat) : Int) = (j : Int) + 1 := by omega
        rw [e1] at HY
        clear e1
        generalize wx.setCell ⟨sb, 1, none⟩ (.int .i64 ((j : Int) + 1)) = wy at *
        clear x0 x1 x2 y0 y1 y2 xl z0 z1 z2 r0 r1 r2 zl d1 f1
        have HSY := hide (hS.out.atJ HY.out.atJ)
        have q3 := HSY.out.s3
        have q4 := HSY.out.s4
        have hys : W.heap.size ≤ wy.heap.size := HY.out.atJ.kept.size
        have hsy : sb < wy.heap.size := by omega
        go_region_held3 (fun w' => w'.cell? ⟨sb, 3, none⟩ = some (.func (.func g1) #[] k1) ∧ w'.cell? ⟨sb, 4, none⟩ = some (.func (.func g2) #[] k2)) (go_keep)
          (first
            | (go_at_call 28; refine (HA.out _ _).mono ?_; rintro e w1 ⟨k5, rfl, hT1, hb1⟩; have hb1' : Below wy.heap.size wy w1 := ((Below.refl _ _).drew).trans hb1; have p3 := (hb1'.cell (p := ⟨sb, 3, none⟩) hsy).trans q3; have p4 := (hb1'.cell (p := ⟨sb, 4, none⟩) hsy).trans q4; have h1y := hb1'.size; have h1z : sb < w1.heap.size := (by omega); have HT1 : Hid (IsT (fun k => k = wy.heap.size) w1 41 k5 (amgB ⟨#[95]⟩)) := hide hT1; have HB1 := hide hb1'; clear hT1 hb1 hb1')
            | (go_at_call 26; refine (either_any w1.heap.size [⟨g1, k1, letT⟩, ⟨g2, k2, btwB 48 57⟩, ⟨41, k5, amgB ⟨#[95]⟩⟩] (fun k => F k ∨ k = wy.heap.size) _ (by simp) (hide (heap_alloc_new w1 _)) (hide (inner_tests HSY.out.i1 HSY.out.i2 HB1.out HT1.out _).1) (inner_tests HSY.out.i1 HSY.out.i2 HB1.out HT1.out _).2).mono ?_; rintro e w2 ⟨k6, rfl, hT2, hb2⟩; have hb2' : Below w1.heap.size w1 w2 := ((Below.refl _ _).alloc (Nat.le_refl _) _).trans (hb2.mono (by simp)); have p5 := (hb2'.cell (p := ⟨sb, 3, none⟩) h1z).trans p3; have p6 := (hb2'.cell (p := ⟨sb, 4, none⟩) h1z).trans p4; rw [inner_any] at hT2; have HT2 := hide hT2; have HF2 := hide (fun k (hk : (F k ∨ k = wy.heap.size) ∨ k = w1.heap.size ∨ k = (w1.alloc (Obj.cells #[.func (.func g1) #[] k1, .func (.func g2) #[] k2, .func (.func 41) #[] k5] 49)).heap.size) => far3 HSY.out.far hsy h1z (by simp; omega) k hk); have HY2 := hide ((HY.out.below hsb HB1.out).below hsb hb2'); clear hT2 hb2 hb2')
            | (go_at_call 43; refine (while_any sb _ (j + 1) _ innerB _ src w2 (hide ((HY2.out.atJ.rest 0 (by decide)).trans hS.out.s0)) (hide HY2.out.atJ.here) (hide HY2.out.atJ.free) hj hs HT2 HF2).mono ?_; rintro e w3 ⟨rfl, hJ3⟩; have p7 := (hJ3.rest 3 (by decide)).trans p5; have p8 := (hJ3.rest 4 (by decide)).trans p6; have HY3 := hide (HY2.out.to hsb hJ3); clear hJ3))
        clear p3 p4 p5 p6 p7 p8 q3 q4 h1y h1z HT1 HT2 HB1 HF2 HY2
        have hq0 := (runTo_le innerB src (j + 1) hj).1
        have hq1 := (runTo_le innerB src (j + 1) hj).2
        generalize hq : runTo innerB src (j + 1) = q at *
        have HQ := hide hq
        clear hq
        generalize w3 = v3 at *
        have HE3 : Hid (Env v3) := hide (hE.out.keptB (HY3.out.atJ.kept.below (B := sb) (Nat.le_of_lt hsb) (fun i hi e => by omega)) h4)
        obtain ⟨x0, x1, x2, y0, y1, y2, xl⟩ := three_of HY3.out.t1
        obtain ⟨z0, z1, z2, r0, r1, r2, zl⟩ := three_of HY3.out.t0
        have d0 := (HY3.out.atJ.rest 0 (by decide)).trans hS.out.s0
        have d1 := HY3.out.atJ.here
        have i0 : (0 : Int) ≤ (j : Int) := by omega
        have i1 : (j : Int) ≤ (q : Int) := by omega
        have i2 : (q : Int) ≤ (src.size : Int) := by omega
        go_wp2_with fail
        go_still_tail 14, (by kernel_rfl)
        generalize htx : src.extract j q = tx at *
        have hsz : tx.size = q - j := by rw [← htx, ByteArray.size_extract]; omega
        have HTX := hide htx
        have HSZ := hide hsz
        clear htx d0 d1 x0 x2 y0 y2 z0 z1 z2
        have HJ4 := hide (HY3.out.atJ.below hsb ((Below.refl _ _).drew))
        obtain ⟨x0, x1, x2, y0, y1, y2, xl⟩ := three_of HY3.out.t1
        obtain ⟨z0, z1, z2, r0, r1, r2, zl⟩ := three_of HY3.out.t0
        change wpList _ _ _ _ _ v3.drew
        have ht := htok.out.symm.trans (tok_num src j hj HL.out HD.out)
        rw [HQ.out] at ht
        have hbytes : tx.data.toList = src[j] :: ((toksL src).drop (j + 1)).take (runN ((toksL src).drop (j + 1))) := by
          have hrun := run_to src j
          rw [HQ.out] at hrun
          rw [← HTX.out, Lib.extract_data, show q - j = 1 + runN ((toksL src).drop (j + 1)) from by omega]
          have := toksL_drop src j hj
          unfold toksL at this ⊢
          rw [this, Nat.add_comm 1, List.take_succ_cons]
        rw [← hbytes] at ht
        have hdig : Hid (∃ b r, tx.data.toList = b :: r ∧ digitB b = true) := hide ⟨_, _, hbytes, HD.out⟩
        have hnc : numC tx.data.toList = numB tx.data.toList := by rw [hbytes]; exact numC_eq _ _ HD.out
        have hE4 : ∀ w', Kept (fun k => k = W.heap.size + 1) v3 w' → Env w' := fun w' hk => HE3.out.keptB (hk.below (B := W.heap.size) (by omega) (fun i hi e => by omega)) (by omega)
        have HN := hide (fun w' (hk : Kept (fun k => k = W.heap.size + 1) v3 w') => number_any tx w' (by rw [HSZ.out]; omega) (hide (hE4 w' hk)) hdig)
        rw [hnc] at HN
        generalize numB tx.data.toList = nb at *
        have HTK := hide ht
        clear ht hbytes hnc hE4
        cases nb
        · go_wp2_with fail
          refine (HN.out _ ((Kept.refl (fun k => k = W.heap.size + 1) v3).drew.setCell (p := ⟨W.heap.size + 1, 1, none⟩) (Or.inl rfl) _)).mono ?_
          rintro e w5 ⟨rfl, hb5⟩
          have HT := hide (keepB (heap_setCell_same v3.drew (W.heap.size + 1) 1 _ _ (.string tx) HY3.out.t1) hb5)
          have HR0 := hide (keepB ((Below.heap_setCell v3.drew _ (.string tx) _ (by simp)).trans HY3.out.t0) hb5)
          have HJ5 := hide ((HJ4.out.new hsb (p := ⟨W.heap.size + 1, 1, none⟩) (by simp) (.string tx)).below hsb hb5)
          clear hb5 x0 x1 x2 y0 y1 y2 xl z0 z1 z2 r0 r1 r2 zl
          obtain ⟨x0, x1, x2, y0, y1, y2, xl⟩ := three_of HT.out
          obtain ⟨z0, z1, z2, r0, r1, r2, zl⟩ := three_of HR0.out
          go_wp2_with fail
          refine bodyPost_ret (v := .tuple #[.agg #[.int .u8 2, .string tx, .int .i64 (j : Int)], .int .i64 72]) (by simp [results, Tryd.results31, go_sem, z0, z1, z2]) rfl ?_
          have ht := HTK.out
          simp only [Prod.mk.injEq] at ht
          obtain ⟨rfl, rfl, rfl⟩ := ht
          rw [show j + (q - j) = q from by omega]
          refine ⟨by rw [HTX.out]; rfl, ?_⟩
          exact ((HJ5.out.new hsb (by simp) _).new hsb (by simp) _).new hsb (by simp) _
        · go_wp2_with fail
          refine (HN.out _ ((Kept.refl (fun k => k = W.heap.size + 1) v3).drew.setCell (p := ⟨W.heap.size + 1, 1, none⟩) (Or.inl rfl) _)).mono ?_
          rintro e w5 ⟨rfl, hb5⟩
          have HT := hide (keepB (heap_setCell_same v3.drew (W.heap.size + 1) 1 _ _ (.string tx) HY3.out.t1) hb5)
          have HR0 := hide (keepB ((Below.heap_setCell v3.drew _ (.string tx) _ (by simp)).trans HY3.out.t0) hb5)
          have HJ5 := hide ((HJ4.out.new hsb (p := ⟨W.heap.size + 1, 1, none⟩) (by simp) (.string tx)).below hsb hb5)
          clear hb5 x0 x1 x2 y0 y1 y2 xl z0 z1 z2 r0 r1 r2 zl
          obtain ⟨x0, x1, x2, y0, y1, y2, xl⟩ := three_of HT.out
          obtain ⟨z0, z1, z2, r0, r1, r2, zl⟩ := three_of HR0.out
          go_wp2_with fail
          refine bodyPost_ret (v := .tuple #[.agg #[.int .u8 2, .string tx, .int .i64 (j : Int)], .int .i64 0]) (by simp [results, Tryd.results31, go_sem, z0, z1, z2]) rfl ?_
          have ht := HTK.out
          simp only [Prod.mk.injEq] at ht
          obtain ⟨rfl, rfl, rfl⟩ := ht
          rw [show j + (q - j) = q from by omega]
          refine ⟨by rw [HTX.out]; rfl, ?_⟩
          exact ((HJ5.out.new hsb (by simp) _).new hsb (by simp) _).new hsb (by simp) _
    · have d3 := HS.out.s5
      have HL := hide hl
      have HD := hide hd
      cases hg : signT src[j]
      ·
        have HC := hide (fun s : Later wr => more_v sb _ j _ _ F src s.w ((s.below.cell (p := ⟨sb, 0, none⟩) hwr).trans d0) ((s.below.cell (p := ⟨sb, 1, none⟩) hwr).trans d1) hj hs (hide (HS.out.i3.below s.below)) false hg)
        go_wp2_with fail
        refine wp_region_later (by kernel_rfl) (by kernel_rfl) ?_
        repeat (go_big_quiet_step (exact Later.call (HC.out _)))
        refine wpQuiet_nil ?_
        intro _ hw'
        obtain ⟨nq, hw''⟩ := hw'
        subst hw''
        have HX := hide (HR.out.below hsb nq.below)
        generalize nq.w = wx at *
        clear HC d0 d1 d3 x0
        obtain ⟨x0, x1, x2, y0, y1, y2, xl⟩ := three_of HX.out.t1
        obtain ⟨z0, z1, z2, r0, r1, r2, zl⟩ := three_of HX.out.t0
        have HG := hide hg
        clear hl hd hg
        go_wp2_with fail
        refine bodyPost_ret (v := .tuple #[.agg #[.int .u8 3, .string ⟨#[]⟩, .int .i64 (j : Int)], .int .i64 70]) (by simp [results, Tryd.results31, go_sem, z0, z1, z2]) rfl ?_
        have ht := htok.out.symm.trans (tok_bad src j hj HL.out HD.out HG.out)
        simp only [Prod.mk.injEq] at ht
        obtain ⟨rfl, rfl, rfl⟩ := ht
        have he : src.extract j (j + 0) = ⟨#[]⟩ := by apply ByteArray.ext; simp
        refine ⟨by rw [he]; rfl, ?_⟩
        exact ((HX.out.atJ.new hsb (by simp) _).new hsb (by simp) _).new hsb (by simp) _
      ·
        have HC := hide (fun s : Later wr => more_v sb _ j _ _ F src s.w ((s.below.cell (p := ⟨sb, 0, none⟩) hwr).trans d0) ((s.below.cell (p := ⟨sb, 1, none⟩) hwr).trans d1) hj hs (hide (HS.out.i3.below s.below)) true hg)
        go_wp2_with fail
        refine wp_region_later (by kernel_rfl) (by kernel_rfl) ?_
        repeat (go_big_quiet_step (exact Later.call (HC.out _)))
        refine wpQuiet_nil ?_
        intro _ hw'
        obtain ⟨nq, hw''⟩ := hw'
        subst hw''
        have HX := hide (HR.out.below hsb nq.below)
        generalize nq.w = wx at *
        clear HC d0 d1 d3 x0
        obtain ⟨x0, x1, x2, y0, y1, y2, xl⟩ := three_of HX.out.t1
        obtain ⟨z0, z1, z2, r0, r1, r2, zl⟩ := three_of HX.out.t0
        have HG := hide hg
        clear hl hd hg
        have d1 := HX.out.atJ.here
        have f1 := HX.out.atJ.free
        have hxs := HX.out.atJ.kept.size
        go_wp2_with fail
        have HY := hide (HX.out.set hsb (j + 1))
        have e1 : ((j + 1 : Nat) : Int) = (j : Int) + 1 := by omega
        rw [e1] at HY
        clear e1
        generalize wx.setCell ⟨sb, 1, none⟩ (.int .i64 ((j : Int) + 1)) = v3 at *
        clear x0 x1 x2 y0 y1 y2 xl z0 z1 z2 r0 r1 r2 zl d1 f1
        have e1 : ((j + 1 : Nat) : Int) = (j : Int) + 1 := by omega
        obtain ⟨x0, x1, x2, y0, y1, y2, xl⟩ := three_of HY.out.t1
        obtain ⟨z0, z1, z2, r0, r1, r2, zl⟩ := three_of HY.out.t0
        have d0 := (HY.out.atJ.rest 0 (by decide)).trans hS.out.s0
        have d1 := HY.out.atJ.here
        rw [e1] at d1
        have i0 : (0 : Int) ≤ (j : Int) := by omega
        have i1 : (j : Int) ≤ (j : Int) + 1 := by omega
        have i2 : (j : Int) + 1 ≤ (src.size : Int) := by omega
        have i3 : ((j : Int) + 1).toNat = j + 1 := by omega
        clear e1
        go_wp2_with fail
        go_still_tail 14, (by kernel_rfl)
        generalize htx : src.extract j (j + 1) = tx at *
        have HTX := hide htx
        clear htx d0 d1 x0 x2 y0 y2 z0 z1 z2 i3
        have HJ4 := hide (HY.out.atJ.below hsb ((Below.refl _ _).drew))
        obtain ⟨x0, x1, x2, y0, y1, y2, xl⟩ := three_of HY.out.t1
        obtain ⟨z0, z1, z2, r0, r1, r2, zl⟩ := three_of HY.out.t0
        have HTK := hide (htok.out.symm.trans (tok_sign src j hj HL.out HD.out HG.out))
        change wpList _ _ _ _ _ v3.drew
        go_wp2_with fail
        refine bodyPost_ret (v := .tuple #[.agg #[.int .u8 3, .string tx, .int .i64 (j : Int)], .int .i64 0]) (by simp [results, Tryd.results31, go_sem, z0, z1, z2]) rfl ?_
        have ht := HTK.out
        simp only [Prod.mk.injEq] at ht
        obtain ⟨rfl, rfl, rfl⟩ := ht
        refine ⟨by rw [HTX.out]; rfl, ?_⟩
        exact (((HJ4.out.new hsb (by simp) _).new hsb (by simp) _).new hsb (by simp) _).new hsb (by simp) _
end Go.Proofs.YteghlkcgeadoaaaDoor
