/-
  nacelleref18: Offer.
-/
import Derived.Test.YthahnliddoijoaaRefB
import Derived.Deep.RegionLaw
import Derived.Deep.RegionHeld3
namespace Go.Proofs.Ythahnliddoijoaa
open Go.RowKit
theorem box3 {w w1 : World} {X Y Z : Obj} (hb : Below (((w.alloc X).alloc Y).alloc Z).heap.size (((w.alloc X).alloc Y).alloc Z) w1) :
    w1.heap[w.heap.size]? = some X ∧ w1.heap[w.heap.size + 1]? = some Y ∧ w1.heap[w.heap.size + 1 + 1]? = some Z ∧ w.heap.size + 3 ≤ w1.heap.size ∧ Below w.heap.size w w1 := by
  have h1 : (w.alloc X).heap[w.heap.size]? = some X := heap_alloc_new w X
  have h2 : ((w.alloc X).alloc Y).heap[w.heap.size + 1]? = some Y := by have := heap_alloc_new (w.alloc X) Y; rw [World.size_alloc] at this; exact this
  have h3 : (((w.alloc X).alloc Y).alloc Z).heap[w.heap.size + 1 + 1]? = some Z := by have := heap_alloc_new ((w.alloc X).alloc Y) Z; rw [World.size_alloc, World.size_alloc] at this; exact this
  have s : (((w.alloc X).alloc Y).alloc Z).heap.size = w.heap.size + 3 := by simp
  have a1 : ((w.alloc X).alloc Y).heap[w.heap.size]? = some X := (Below.heap_alloc _ _ _ (by simp)).trans h1
  have a2 : (((w.alloc X).alloc Y).alloc Z).heap[w.heap.size]? = some X := (Below.heap_alloc _ _ _ (by simp; omega)).trans a1
  have a3 : (((w.alloc X).alloc Y).alloc Z).heap[w.heap.size + 1]? = some Y := (Below.heap_alloc _ _ _ (by simp)).trans h2
  rw [s] at hb
  exact ⟨(hb.block _ (by omega)).trans a2, (hb.block _ (by omega)).trans a3, (hb.block _ (by omega)).trans h3, by have := hb.size; omega, ((((Below.refl _ _).alloc (Nat.le_refl _) X).alloc (by simp) Y).alloc (by simp; omega) Z).trans (hb.mono (by omega))⟩
theorem box2 {w w1 : World} {X Y : Obj} (hb : Below ((w.alloc X).alloc Y).heap.size ((w.alloc X).alloc Y) w1) :
    w1.heap[w.heap.size]? = some X ∧ w1.heap[w.heap.size + 1]? = some Y ∧ w.heap.size + 2 ≤ w1.heap.size ∧ Below w.heap.size w w1 := by
  have h1 : (w.alloc X).heap[w.heap.size]? = some X := heap_alloc_new w X
  have h2 : ((w.alloc X).alloc Y).heap[w.heap.size + 1]? = some Y := by have := heap_alloc_new (w.alloc X) Y; rw [World.size_alloc] at this; exact this
  have s : ((w.alloc X).alloc Y).heap.size = w.heap.size + 2 := by simp
  have a1 : ((w.alloc X).alloc Y).heap[w.heap.size]? = some X := (Below.heap_alloc _ _ _ (by simp)).trans h1
  rw [s] at hb
  exact ⟨(hb.block _ (by omega)).trans a1, (hb.block _ (by omega)).trans h2, by have := hb.size; omega, (((Below.refl _ _).alloc (Nat.le_refl _) X).alloc (by simp) Y).trans (hb.mono (by omega))⟩
theorem box1 {w w1 : World} {X : Obj} (hb : Below (w.alloc X).heap.size (w.alloc X) w1) : w1.heap[w.heap.size]? = some X ∧ w.heap.size + 1 ≤ w1.heap.size ∧ Below w.heap.size w w1 := by
  have h1 : (w.alloc X).heap[w.heap.size]? = some X := heap_alloc_new w X
  have s : (w.alloc X).heap.size = w.heap.size + 1 := by simp
  rw [s] at hb
  exact ⟨(hb.block _ (by omega)).trans h1, by have := hb.size; omega, ((Below.refl _ _).alloc (Nat.le_refl _) X).trans (hb.mono (by omega))⟩
theorem set_blk {w : World} {x j : Nat} {cs : Array Value} {u : Value} {t : TypeId} (h : w.heap[x]? = some (.cells cs t (0, 0))) : (w.setCell ⟨x, j, none⟩ u).heap[x]? = some (.cells (cs.setIfInBounds j u) t (0, 0)) := heap_setCell_same w x j cs t u h
theorem set_far {w : World} {x z j : Nat} {u : Value} {o : Obj} (h : w.heap[z]? = some o) (hne : z ≠ x) : (w.setCell ⟨x, j, none⟩ u).heap[z]? = some o := (Below.heap_setCell _ _ _ _ (fun e => hne e)).trans h
theorem own_empty {w : World} {base g size : Nat} {t : TypeId} (h : w.heap[g]? = some (.cells #[] t (0, 0))) (hb : base ≤ g) : w.ownsRow base t size (.slice (some ⟨g, 0, none⟩) 0 0) 0 [] :=
  ⟨by simp, .inr ⟨g, 0, #[], rfl, hb, h, Nat.le_refl _, by unfold maxLen; omega, by simp, by simp⟩⟩
theorem own_cap {w : World} {base e size n c : Nat} {A : Option Addr} {xs : List Value} (h : w.ownsRow base e size (.slice A n c) n xs) : n ≤ c := by
  rcases h.2 with ⟨hv, hn⟩ | ⟨g, cap, cur, hv, _, _, hc, _⟩
  · omega
  · injection hv with _ _ e3
    omega
theorem itemInfo : (Try.prog.info? 89).map (fun i => (i.zero, i.size, i.bytes)) = some (some (.agg #[.int .i64 0, .int .i64 0, .int .i64 0, .int .i64 0, .slice none 0 0]), 5, 56) := by kernel_rfl
theorem heapA (W : World) (o : Obj) : (W.alloc o).drew.heap[W.heap.size]? = some o := heap_alloc_new W o
theorem heapB (W : World) (o o' : Obj) : ((W.alloc o).alloc o').drew.heap[W.heap.size]? = some o := (Below.heap_alloc (W.alloc o) o' W.heap.size (by simp)).trans (heap_alloc_new W o)
theorem heapC (W : World) (o o' : Obj) : ((W.alloc o).alloc o').drew.heap[W.heap.size + 1]? = some o' := by
  have := heap_alloc_new (W.alloc o) o'
  rw [World.size_alloc] at this
  exact this
/-- The state behind a call, in a word that the walk does not open. -/
def OffR (w w' : World) (R' : RS) (e : Ending) (err : Int) (bA lA : Option Addr) (bc lc : Nat) (F : Nat → Prop) : Prop :=
  ∃ iA ic ps, e = .returned (.tuple #[RSV R' bA lA iA bc lc ic, .int .i64 err]) ∧ RAt w' R' bA lA iA ps F ∧ Below w.heap.size w w' ∧ R'.items.length ≤ ic
set_option maxRecDepth 100000 in
set_option maxHeartbeats 1000000 in
theorem roffer_bad (R : RS) (bA lA iA : Option Addr) (bc lc ic : Nat) (ps : List (It × Value)) (F : Nat → Prop) (t vl net seq : Int) (dA : Option Addr) (dn dc : Nat) (w : World) (h : Hid (RAt w R bA lA iA ps F)) (hic : Hid (R.items.length ≤ ic))
    (hbad : Hid ((R.late t || decide (vl < 0) || decide ((R.bags.length : Int) ≤ vl)) = true)) :
    Calls Try.prog 35 #[RSV R bA lA iA bc lc ic, .int .i64 t, frameV vl net seq dA dn dc] w fun e w' => OffR w w' R e 2 bA lA bc lc F := by
  have HE := hide (fun W => early_any R bA lA iA bc lc ic t W)
  have HR : Hid (∀ w', Below w.heap.size w w' → OffR w w' R (.returned (.tuple #[RSV R bA lA iA bc lc ic, .int .i64 2])) 2 bA lA bc lc F) := fun w' hb => ⟨iA, ic, ps, rfl, h.out.below hb, hb, hic.out⟩
  have hbad2 := hbad.out
  unfold RSV at HE HR ⊢
  unfold frameV
  generalize R.bags.length = nb at *
  generalize R.left.length = nl at *
  generalize R.items.length = ni at *
  generalize R.clock = ck at *
  generalize hl : R.late t = l at *
  clear hl hbad
  have cs : l = true ∨ (l = false ∧ vl < 0) ∨ (l = false ∧ 0 ≤ vl ∧ (nb : Int) ≤ vl) := by
    cases l
    · by_cases h1 : vl < 0
      · exact .inr (.inl ⟨rfl, h1⟩)
      · refine .inr (.inr ⟨rfl, by omega, ?_⟩)
        simp [h1] at hbad2
        exact hbad2
    · exact .inl rfl
  clear hbad2
  rcases cs with rfl | ⟨rfl, c1⟩ | ⟨rfl, c1, c2⟩
  all_goals
    go_enter Try.func35, Try.ntmps35
    go_wp2_with fail
    refine (HE.out _).mono ?_
    rintro e w1 ⟨rfl, hb⟩
    obtain ⟨hX, hY, hZ, hsz, hb⟩ := box3 hb
    have HB := hide hb
    obtain ⟨x0, x1, x2, x3, xl⟩ := four_of hX
    obtain ⟨y0, y1, y2, y3, yl⟩ := four_of hY
    obtain ⟨z0, z1, z2, z3, zl⟩ := four_of hZ
    have f0 := frozen_of_row w1 (w.heap.size + 1 + 1) 0 _ _ hZ
    have f1 := frozen_of_row w1 (w.heap.size + 1 + 1) 1 _ _ hZ
    have f2 := frozen_of_row w1 (w.heap.size + 1 + 1) 2 _ _ hZ
    have f3 := frozen_of_row w1 (w.heap.size + 1 + 1) 3 _ _ hZ
    clear hb hX hY hZ
    go_wp2_with fail
    refine bodyPost_ret (v := .tuple #[.agg #[.slice bA nb bc, .int .i64 ck, .slice lA nl lc, .slice iA ni ic], .int .i64 2]) (by simp [results, Try.results35, go_sem, z0, z1, z2, z3, zl]) rfl (HR.out _ ?_)
    exact (((HB.out.setCell (p := ⟨w.heap.size + 1 + 1, 0, none⟩) (by simp; omega) _).setCell (p := ⟨w.heap.size + 1 + 1, 1, none⟩) (by simp; omega) _).setCell (p := ⟨w.heap.size + 1 + 1, 2, none⟩) (by simp; omega) _).setCell (p := ⟨w.heap.size + 1 + 1, 3, none⟩) (by simp; omega) _
theorem own_set {w : World} {base e size n : Nat} {v : Value} {xs : List Value} (h : w.ownsRow base e size v n xs) {p : Addr} (hp : p.block < base) (u : Value) : (w.setCell p u).ownsRow base e size v n xs := by
  refine ⟨h.1, ?_⟩
  rcases h.2 with hn | ⟨g, cap, cur, hv, hb, hg, rest⟩
  · exact .inl hn
  · exact .inr ⟨g, cap, cur, hv, hb, (Below.heap_setCell _ _ _ _ (by omega)).trans hg, rest⟩
theorem Bts.of_own {w : World} {base e : Nat} {A : Option Addr} {n c : Nat} {zs : List Int} {F : Nat → Prop} (h : w.ownsRow base e 1 (.slice A n c) n (u8s zs)) (hl : zs.length = n) (hF : ∀ k, F k → k < base) : Bts w A n zs F := by
  refine ⟨hl, fun hn => ?_⟩
  obtain ⟨g, cap, hv, hb, hlt⟩ := h.form hn
  have hA : A = some ⟨g, 0, none⟩ := by injection hv
  subst hA
  refine ⟨g, 0, rfl, fun hf => ?_, hlt, fun i z hz => ?_⟩
  · have := hF g hf; omega
  · have := h.cells (g := g) rfl i (.int .u8 z) (by unfold u8s; rw [List.getElem?_map, hz]; rfl)
    rwa [Addr.add_mid] at this
theorem reads_blk5 {w : World} {g : Nat} {t : TypeId} {c0 c1 c2 c3 c4 : Value} (h : w.heap[g]? = some (.cells #[c0, c1, c2, c3, c4] t (0, 0))) : Reads w w.heap.size 5 (some ⟨g, 0, none⟩) 1 [c0, c1, c2, c3, c4] :=
  ⟨rfl, fun _ => ⟨⟨g, 0, none⟩, rfl, blk_in h, World.news_of_block (cs := #[c0, c1, c2, c3, c4]) (t := t) (fr := (0, 0)) h⟩⟩
theorem blk_grow {W w1 : World} {row : Option Nat} {B : Nat} {o : Obj} (h : W.heap[B]? = some o) (hg : W.grownBy w1 row) (hne : row ≠ some B) : w1.heap[B]? = some o :=
  (hg.block B (blk_in h) (fun e => hne e.symm)).trans h
theorem le1 (w : World) (o : Obj) : w.heap.size ≤ (w.alloc o).drew.heap.size := by show _ ≤ (w.alloc o).heap.size; simp
theorem le2 (w : World) (o o' : Obj) : w.heap.size ≤ ((w.alloc o).alloc o').drew.heap.size := by show _ ≤ ((w.alloc o).alloc o').heap.size; simp; omega
theorem le3 {k : Nat} {w : World} (h : k ≤ w.heap.size) (o : Obj) : k ≤ (w.alloc o).heap.size := by simp; omega
theorem belowA (w : World) (o : Obj) : Below w.heap.size w (w.alloc o).drew := ((Below.refl _ _).alloc (Nat.le_refl _) _).drew
theorem belowB (w : World) (o o' : Obj) : Below w.heap.size w ((w.alloc o).alloc o').drew := (((Below.refl _ _).alloc (Nat.le_refl _) _).alloc (le1 _ _) _).drew
theorem grown_none {w w' : World} (h : Below w.heap.size w w') (hw : w.heap.size ≤ w.heap.size) : w.grownBy w' none := ⟨h.os, h.tape, h.output, h.size, fun i hi _ => h.block i hi⟩
theorem readsA {w : World} {size n : Nat} {A : Option Addr} {xs : List Value} (h : Reads w w.heap.size size A n xs) (o : Obj) : Reads (w.alloc o).drew w.heap.size size A n xs := (h.alloc (Nat.le_refl _) o).drew
theorem readsB {w : World} {size n : Nat} {A : Option Addr} {xs : List Value} (h : Reads w w.heap.size size A n xs) (o o' : Obj) : Reads ((w.alloc o).alloc o').drew w.heap.size size A n xs := ((h.alloc (Nat.le_refl _) o).alloc (by simp) o').drew
theorem RAt.clock {w : World} {R : RS} {bA lA iA : Option Addr} {ps : List (It × Value)} {F : Nat → Prop} (h : RAt w R bA lA iA ps F) {t : Int} (t0 : 0 ≤ t) (t1 : t ≤ 1073741824) : RAt w ⟨R.bags, t, R.left, R.items⟩ bA lA iA ps F :=
  ⟨h.fst, h.bags, h.left_, h.items, h.b16, h.l16, t0, t1, h.bok, h.lok, h.vls, h.tms, h.few⟩
set_option maxRecDepth 100000 in
set_option maxHeartbeats 1000000 in
theorem roffer_full (R : RS) (bA lA iA : Option Addr) (bc lc ic : Nat) (ps : List (It × Value)) (F : Nat → Prop) (t vl net seq : Int) (dA : Option Addr) (dn dc : Nat) (w : World) (h : Hid (RAt w R bA lA iA ps F)) (hic : Hid (R.items.length ≤ ic))
    (hlate : Hid (R.late t = false)) (t0 : 0 ≤ t) (t1 : t ≤ 1073741824) (v0 : 0 ≤ vl) (v1 : vl < R.bags.length) (hw : Hid (R.waiting vl = 16)) :
    Calls Try.prog 35 #[RSV R bA lA iA bc lc ic, .int .i64 t, frameV vl net seq dA dn dc] w fun e w' => OffR w w' ⟨R.bags, t, R.left, R.items⟩ e 4 bA lA bc lc F := by
  have HR : Hid (∀ w', Below w.heap.size w w' → OffR w w' ⟨R.bags, t, R.left, R.items⟩ (.returned (.tuple #[.agg #[.slice bA R.bags.length bc, .int .i64 t, .slice lA R.left.length lc, .slice iA R.items.length ic], .int .i64 4])) 4 bA lA bc lc F) := fun w' hb => ⟨iA, ic, ps, rfl, (h.out.below hb).clock t0 t1, hb, hic.out⟩
  have hwt := hw.out
  have HE := hide (fun W => early_any R bA lA iA bc lc ic t W)
  have HWT := hide (fun W (hW : Hid (RAt W ⟨R.bags, t, R.left, R.items⟩ bA lA iA ps F)) => rwaiting_any ⟨R.bags, t, R.left, R.items⟩ bA lA iA bc lc ic ps F vl W hW)
  rw [hlate.out] at HE
  have HWW : Hid ((⟨R.bags, t, R.left, R.items⟩ : RS).waiting vl = R.waiting vl) := rfl
  rw [HWW.out] at HWT
  unfold RSV at HE HWT ⊢
  dsimp only at HE HWT
  unfold frameV
  generalize R.waiting vl = wt at *
  generalize hni : R.items.length = ni at *
  have HNI := hide hni
  clear hni
  generalize hnb : R.bags.length = nb at *
  generalize R.left.length = nl at *
  generalize R.clock = ck at *
  go_enter Try.func35, Try.ntmps35
  go_wp2_with fail
  refine (HE.out _).mono ?_
  rintro e w1 ⟨rfl, hb⟩
  obtain ⟨hX, hY, hZ, hsz, hb⟩ := box3 hb
  have HB := hide hb
  obtain ⟨x0, x1, x2, x3, xl⟩ := four_of hX
  obtain ⟨y0, y1, y2, y3, yl⟩ := four_of hY
  have f1 := frozen_of_row w1 w.heap.size 1 _ _ hX
  have HX : Hid ((w1.setCell ⟨w.heap.size, 1, none⟩ (.int .i64 t)).heap[w.heap.size]? = some (.cells #[.slice bA nb bc, .int .i64 t, .slice lA nl lc, .slice iA ni ic] 45 (0, 0))) := set_blk hX
  have HY := hide (set_far (x := w.heap.size) (j := 1) (u := .int .i64 t) hY (by omega))
  have HZ := hide (set_far (x := w.heap.size) (j := 1) (u := .int .i64 t) hZ (by omega))
  have HB1 := hide (HB.out.setCell (p := ⟨w.heap.size, 1, none⟩) (Nat.le_refl _) (.int .i64 t))
  have hsz1 : w.heap.size + 3 ≤ (w1.setCell ⟨w.heap.size, 1, none⟩ (.int .i64 t)).heap.size := by simpa [World.setCell] using hsz
  clear hb hX hY hZ HB
  go_wp2_with fail
  generalize w1.setCell ⟨w.heap.size, 1, none⟩ (.int .i64 t) = W1 at *
  clear x0 x1 x2 x3 xl y0 y1 y2 y3 yl f1 hsz
  refine (HWT.out W1 (hide ((h.out.below HB1.out).clock t0 t1))).mono ?_
  rintro e w2 ⟨rfl, hb⟩
  have HX2 := hide (keep HX.out hb)
  have HY2 := hide (keep HY.out hb)
  have HZ2 := hide (keep HZ.out hb)
  have HB2 := hide (HB1.out.trans (hb.mono HB1.out.size))
  have hsz2 : w.heap.size + 3 ≤ w2.heap.size := Nat.le_trans hsz1 hb.size
  obtain ⟨x0, x1, x2, x3, xl⟩ := four_of HX2.out
  obtain ⟨y0, y1, y2, y3, yl⟩ := four_of HY2.out
  obtain ⟨z0, z1, z2, z3, zl⟩ := four_of HZ2.out
  have g0 := frozen_of_row w2 (w.heap.size + 1 + 1) 0 _ _ HZ2.out
  have g1 := frozen_of_row w2 (w.heap.size + 1 + 1) 1 _ _ HZ2.out
  have g2 := frozen_of_row w2 (w.heap.size + 1 + 1) 2 _ _ HZ2.out
  have g3 := frozen_of_row w2 (w.heap.size + 1 + 1) 3 _ _ HZ2.out
  clear hb HX HY HZ HB1 hsz1
  have hw16 : ((wt : Int) == 16) = true := by simp; omega
  clear hwt
  go_wp2_with fail
  refine bodyPost_ret (v := .tuple #[.agg #[.slice bA nb bc, .int .i64 t, .slice lA nl lc, .slice iA ni ic], .int .i64 4]) (by simp [results, Try.results35, go_sem, z0, z1, z2, z3, zl]) rfl (HR.out _ ?_)
  exact (((HB2.out.setCell (p := ⟨w.heap.size + 1 + 1, 0, none⟩) (by simp; omega) _).setCell (p := ⟨w.heap.size + 1 + 1, 1, none⟩) (by simp; omega) _).setCell (p := ⟨w.heap.size + 1 + 1, 2, none⟩) (by simp; omega) _).setCell (p := ⟨w.heap.size + 1 + 1, 3, none⟩) (by simp; omega) _
end Go.Proofs.Ythahnliddoijoaa
