/-
  nacelleref18: Next: a frame leaves.
-/
import Derived.Test.YthahnliddoijoaaRefD
import Derived.OneCell
import Derived.IntWalk
namespace Go.Proofs.Ythahnliddoijoaa
open Go.RowKit
theorem Reads.first {w : World} {B size n k : Nat} {A : Option Addr} {xs : List Value} (h : Reads w B size A n xs) (hk : k ≤ n) : Reads w B size A k (xs.take (k * size)) := by
  refine ⟨by rw [List.length_take, h.1]; exact Nat.min_eq_left (Nat.mul_le_mul_right _ hk), fun hn => ?_⟩
  obtain ⟨ad, e, hb, hc⟩ := h.2 (by omega)
  refine ⟨ad, e, hb, fun j u hu => hc j u ?_⟩
  have hj : j < k * size := by
    have := (List.getElem?_eq_some_iff.1 hu).1
    rw [List.length_take] at this; omega
  rwa [List.getElem?_take_of_lt hj] at hu
theorem sub_it {ps : List (It × Value)} {i : Nat} : ∀ p ∈ ps.eraseIdx i, p ∈ ps := fun p hp => List.mem_of_mem_eraseIdx hp
theorem itF_erase (ps : List (It × Value)) (i : Nat) : itF (ps.take i) ++ itF (ps.drop (i + 1)) = itF (ps.eraseIdx i) := by
  rw [← itF_app, List.eraseIdx_eq_take_drop_succ]
theorem map_erase (ps : List (It × Value)) : ∀ i, (ps.eraseIdx i).map Prod.fst = (ps.map Prod.fst).eraseIdx i := by
  induction ps with
  | nil => intro i; rfl
  | cons p ps ih =>
    intro i
    cases i with
    | zero => rfl
    | succ i => simp [ih]
theorem RAt.pull {w W : World} {R : RS} {bA lA iA L6 A6 : Option Addr} {ps : List (It × Value)} {F : Nat → Prop} (h : RAt w R bA lA iA ps F) (hb : Below w.heap.size w W) {t : Int} {i c1 c6 b1 b6 m v : Nat} (t0 : 0 ≤ t) (t1 : t ≤ 1073741824)
    (hF : ∀ k, F k → k < w.heap.size) (g1 : w.heap.size ≤ b1) (g6 : w.heap.size ≤ b6) (hi : i < R.items.length) (hm : m = R.items.length - 1)
    (hd : W.ownsRow b1 3 1 (.slice L6 R.left.length c1) R.left.length ((R.left.set v t).map (Value.int .i64)))
    (ho : W.ownsRow b6 89 5 (.slice A6 m c6) m (itF (ps.eraseIdx i))) :
    RAt W ⟨R.bags, t, R.left.set v t, R.items.eraseIdx i⟩ bA L6 A6 (ps.eraseIdx i) F := by
  have h' := h.below hb
  have hps : ps.length = R.items.length := by rw [← h.fst]; simp
  have el : (R.items.eraseIdx i).length = m := by rw [List.length_eraseIdx, if_pos hi]; omega
  have ep : (ps.eraseIdx i).length = m := by rw [List.length_eraseIdx, if_pos (by omega)]; omega
  have ell : (R.left.set v t).length = R.left.length := List.length_set
  refine ⟨by rw [map_erase, h.fst], h'.bags, ?_, ?_, h.b16, by show (R.left.set v t).length = _; rw [ell]; exact h.l16, t0, t1, h.bok, fun k hk => ?_, fun x hx => h.vls x (List.mem_of_mem_eraseIdx hx), fun x hx => h.tms x (List.mem_of_mem_eraseIdx hx), by show (R.items.eraseIdx i).length ≤ _; have := h.few; omega⟩
  · show Ints W L6 (R.left.set v t).length _ F
    rw [ell]
    exact Ints.of_own hd ell (fun k hk => Nat.lt_of_lt_of_le (hF k hk) g1)
  · show Its W A6 (R.items.eraseIdx i).length _ F
    rw [el]
    exact Its.of_own ho ep (fun k hk => Nat.lt_of_lt_of_le (hF k hk) g6) (fun p hp => h'.items.pay p (sub_it p hp))
  · have := h.lok k hk
    show -1 ≤ (R.left.set v t).getD k 0 ∧ (R.left.set v t).getD k 0 ≤ 1073741824
    simp only [List.getD_eq_getElem?_getD, List.getElem?_set] at this ⊢
    by_cases hv : v = k
    · rw [if_pos hv]
      by_cases hl : v < R.left.length
      · rw [if_pos hl]; simp only [Option.getD_some]; omega
      · rw [if_neg hl]; simp
    · rw [if_neg hv]; exact this
theorem nxt_mk {w W : World} {R : RS} {bA lA iA L6 A6 dA : Option Addr} {ps : List (It × Value)} {F : Nat → Prop} (h : RAt w R bA lA iA ps F) (hb : Below w.heap.size w W) {t xvl xnet xseq : Int} {xb : List Int} {xt : Int} {i bc c1 c6 b1 b6 m xn dc : Nat} (t0 : 0 ≤ t) (t1 : t ≤ 1073741824)
    (hF : ∀ k, F k → k < w.heap.size) (g1 : w.heap.size ≤ b1) (g6 : w.heap.size ≤ b6) (hi : i < R.items.length) (hm : m = R.items.length - 1) (hxn : xb.length = xn) (hp : Bts w dA xn xb F)
    (hd : W.ownsRow b1 3 1 (.slice L6 R.left.length c1) R.left.length ((R.left.set xvl.toNat t).map (Value.int .i64)))
    (ho : W.ownsRow b6 89 5 (.slice A6 m c6) m (itF (ps.eraseIdx i))) :
    NxtR w W ⟨R.bags, t, R.left.set xvl.toNat t, R.items.eraseIdx i⟩ (some ⟨xt, xvl, xnet, xseq, xb⟩) (.returned (.tuple #[.agg #[.slice bA R.bags.length bc, .int .i64 t, .slice L6 R.left.length c1, .slice A6 m c6], .agg #[.int .i64 xvl, .int .i64 xnet, .int .i64 xseq, .slice dA xn dc], .bool true, .int .i64 0])) 0 bA bc F := by
  have h2 := h.pull hb t0 t1 hF g1 g6 hi hm hd ho
  have el : (R.items.eraseIdx i).length = m := by rw [List.length_eraseIdx, if_pos hi]; omega
  have ell : (R.left.set xvl.toNat t).length = R.left.length := List.length_set
  have hp2 := hp.swap (F' := F) (G := fun _ => False) (.of_below (F := fun _ => False) hb) (fun _ h => h.elim) (fun _ h => .inl h)
  have hcap := own_cap ho
  subst hxn
  refine ⟨L6, c1, A6, c6, ps.eraseIdx i, dA, dc, ?_, h2, hp2, hb, ?_⟩
  · unfold RSV frameV
    show Ending.returned (.tuple #[_, _, _, _]) = Ending.returned (.tuple #[.agg #[_, _, .slice L6 (R.left.set xvl.toNat t).length c1, .slice A6 (R.items.eraseIdx i).length c6], _, _, _])
    rw [el, ell]
    rfl
  · show (R.items.eraseIdx i).length ≤ _
    rw [el]; exact hcap

set_option maxRecDepth 100000 in
set_option maxHeartbeats 1500000 in
theorem rnext_some (R : RS) (bA lA iA : Option Addr) (bc lc ic : Nat) (ps : List (It × Value)) (F : Nat → Prop) (t : Int) (w : World) (h : Hid (RAt w R bA lA iA ps F)) (hic : Hid (R.items.length ≤ ic)) (hlate : Hid (R.late t = false)) (t0 : 0 ≤ t) (t1 : t ≤ 1073741824) (hF : Hid (∀ k, F k → k < w.heap.size))
    (lst : Int) (i : Nat) (x : It) (hbest : Hid (R.best = (lst, (i : Int)))) (hle : lst ≤ t) (hx : Hid (R.items[i]? = some x)) :
    Calls Try.prog 38 #[RSV R bA lA iA bc lc ic, .int .i64 t] w fun e w' => NxtR w w' ⟨R.bags, t, R.left.set x.vl.toNat t, R.items.eraseIdx i⟩ (some x) e 0 bA bc F := by
  have hil : i < R.items.length := (List.getElem?_eq_some_iff.1 hx.out).1
  have few := h.out.few
  obtain ⟨d, hp⟩ := h.out.pair hx.out
  have HP := hide hp
  obtain ⟨dA, dc, hd, hbts⟩ := h.out.items.pay (x, d) (List.mem_of_getElem? hp)
  simp only at hd hbts
  subst hd
  have HPY := hide hbts
  obtain ⟨v0, v1⟩ := h.out.vls x (List.mem_of_getElem? hx.out)
  have HRLA := hide (fun W (hb : Below w.heap.size w W) => (h.out.below hb).left_.reads)
  have hl16 : R.left.length ≤ 16 := by rw [h.out.l16]; exact h.out.b16
  have v2 : x.vl < R.left.length := by rw [h.out.l16]; exact v1
  obtain ⟨xt, xvl, xnet, xseq, xb⟩ := x
  simp only at HPY v0 v1 v2 HP
  obtain ⟨v, rfl⟩ : ∃ v : Nat, xvl = (v : Int) := ⟨xvl.toNat, by omega⟩
  have HR : Hid (∀ W L6 A6 c1 c6 b1 b6 m, Below w.heap.size w W → w.heap.size ≤ b1 → w.heap.size ≤ b6 → m = R.items.length - 1 → W.ownsRow b1 3 1 (.slice L6 R.left.length c1) R.left.length ((R.left.set (v : Int).toNat t).map (Value.int .i64)) → W.ownsRow b6 89 5 (.slice A6 m c6) m (itF (ps.eraseIdx i)) →
      NxtR w W ⟨R.bags, t, R.left.set (v : Int).toNat t, R.items.eraseIdx i⟩ (some ⟨xt, (v : Int), xnet, xseq, xb⟩) (.returned (.tuple #[.agg #[.slice bA R.bags.length bc, .int .i64 t, .slice L6 R.left.length c1, .slice A6 m c6], .agg #[.int .i64 (v : Int), .int .i64 xnet, .int .i64 xseq, .slice dA xb.length dc], .bool true, .int .i64 0])) 0 bA bc F) := fun W L6 A6 c1 c6 b1 b6 m hb g1 g6 hm hd ho =>
    nxt_mk h.out hb t0 t1 hF.out g1 g6 hil hm rfl HPY.out hd ho
  simp only [Int.toNat_natCast] at HR
  have HBS := hide (fun W (hW : Hid (RAt W ⟨R.bags, t, R.left, R.items⟩ bA lA iA ps F)) => best_r ⟨R.bags, t, R.left, R.items⟩ bA lA iA bc lc ic ps F W hW)
  have HBE : Hid ((⟨R.bags, t, R.left, R.items⟩ : RS).best = R.best) := best_clock R t
  rw [HBE.out, hbest.out] at HBS
  obtain ⟨i0, hi0, hz0, hz1, hz2⟩ := info_parts itemInfo
  obtain ⟨j0, hj0, hy0, hy1, hy2⟩ := info_parts intInfo
  have hicap := hic.out
  unfold RSV pairV at HBS
  dsimp only at HBS
  clear HBE hp hbts
  generalize xb.length = xn at *
  have HE := hide (fun W => early_any R bA lA iA bc lc ic t W)
  unfold RSV at HE ⊢
  generalize R.bags.length = nb at *
  generalize R.left.length = nl at *
  generalize hni : R.items.length = ni at *
  have HNI := hide hni
  clear hni
  generalize R.clock = ck at *
  rw [hlate.out] at HE
  go_enter Try.func38, Try.ntmps38
  go_wp2_with fail
  refine (HE.out _).mono ?_
  rintro e w1 ⟨rfl, hb⟩
  obtain ⟨hX, hY, hZ, hsz, hb⟩ := box3 hb
  have HB := hide hb
  have HX := hide hX
  have HY := hide hY
  have HZ := hide hZ
  obtain ⟨x0, x1, x2, x3, xl⟩ := four_of hX
  obtain ⟨y0, y1, y2, y3, yl⟩ := four_of hY
  obtain ⟨z0, z1, z2, z3, zl⟩ := four_of hZ
  have f1 := frozen_of_row w1 w.heap.size 1 _ _ hX
  have HX1 : Hid ((w1.setCell ⟨w.heap.size, 1, none⟩ (.int .i64 t)).heap[w.heap.size]? = some (.cells #[.slice bA nb bc, .int .i64 t, .slice lA nl lc, .slice iA ni ic] 45 (0, 0))) := set_blk hX
  have HY1 := hide (set_far (x := w.heap.size) (j := 1) (u := .int .i64 t) hY (by omega))
  have HZ1 := hide (set_far (x := w.heap.size) (j := 1) (u := .int .i64 t) hZ (by omega))
  have HB1 := hide (HB.out.setCell (p := ⟨w.heap.size, 1, none⟩) (Nat.le_refl _) (.int .i64 t))
  have hsz1 : w.heap.size + 3 ≤ (w1.setCell ⟨w.heap.size, 1, none⟩ (.int .i64 t)).heap.size := by simpa [World.setCell] using hsz
  clear hb hX hY hZ HX HY HZ HB
  go_wp2_with fail
  generalize w1.setCell ⟨w.heap.size, 1, none⟩ (.int .i64 t) = W1 at *
  clear x0 x1 x2 x3 xl y0 y1 y2 y3 yl z0 z1 z2 z3 zl f1 hsz
  refine (HBS.out W1 (hide ((h.out.below HB1.out).clock t0 t1))).mono ?_
  rintro e w2 ⟨rfl, hb⟩
  have HX := hide (keep HX1.out hb)
  have HY := hide (keep HY1.out hb)
  have HZ := hide (keep HZ1.out hb)
  have HB := hide (HB1.out.trans (hb.mono HB1.out.size))
  have hsz : w.heap.size + 3 ≤ w2.heap.size := Nat.le_trans hsz1 hb.size
  obtain ⟨x0, x1, x2, x3, xl⟩ := four_of HX.out
  clear hb HX1 HY1 HZ1 HB1 hsz1
  have HIT := hide ((h.out.below HB.out).items)
  obtain ⟨b0, off, hA, -, hb0, -⟩ := HIT.out.at_ (by rw [HNI.out]; omega)
  subst hA
  obtain ⟨-, -, c1, c2, c3, c4⟩ := HIT.out.cells rfl HP.out
  have n0 : ¬ ((i : Int) < 0) := by omega
  have n1 : ¬ (t < lst) := by omega
  have n2 : (i : Int) < (ni : Int) := by omega
  go_wp2_with fail
  have HFR := hide (heap_alloc_new w2 (.cells #[.int .i64 (v : Int), .int .i64 xnet, .int .i64 xseq, .slice dA xn dc] 33))
  have HX4 := hide (keep HX.out ((Below.refl _ _).alloc (Nat.le_refl _) (.cells #[.int .i64 (v : Int), .int .i64 xnet, .int .i64 xseq, .slice dA xn dc] 33)))
  have HY4 := hide (keep HY.out ((Below.refl _ _).alloc (Nat.le_refl _) (.cells #[.int .i64 (v : Int), .int .i64 xnet, .int .i64 xseq, .slice dA xn dc] 33)))
  have HZ4 := hide (keep HZ.out ((Below.refl _ _).alloc (Nat.le_refl _) (.cells #[.int .i64 (v : Int), .int .i64 xnet, .int .i64 xseq, .slice dA xn dc] 33)))
  have HB4 := hide (HB.out.alloc HB.out.size (.cells #[.int .i64 (v : Int), .int .i64 xnet, .int .i64 xseq, .slice dA xn dc] 33))
  have hsz4 : w2.heap.size < (w2.alloc (.cells #[.int .i64 (v : Int), .int .i64 xnet, .int .i64 xseq, .slice dA xn dc] 33)).heap.size := by simp
  clear HX HY HZ HB x0 x1 x2 x3 xl HIT c1 c2 c3 c4 hb0
  generalize w2.alloc (.cells #[.int .i64 (v : Int), .int .i64 xnet, .int .i64 xseq, .slice dA xn dc] 33) = W4 at *
  generalize w2.heap.size = f0 at *
  have hRI := (h.out.below HB4.out).items.reads
  rw [HNI.out] at hRI
  have HRI := hide hRI
  have HI1 := hide h.out.items.one
  clear hRI
  obtain ⟨x0, x1, x2, x3, xl⟩ := four_of HX4.out
  clear x0 x1 x2 xl
  have hel : ∀ W, (Go.sizeOf (Try.prog.elem 43)).run Try.prog W = .ok 5 W := fun W => by kernel_rfl
  have hs1 : ∀ W, (Instr.slice 43 (.slice (some ⟨b0, off, none⟩) ni ic) none (some (.int .i64 (i : Int))) none).run Try.prog W = .ok (.slice (some ⟨b0, off, none⟩) i ic) W := fun W => by
    rw [run_slice_h (P := Try.prog) W 43 (some ⟨b0, off, none⟩) ni ic (by kernel_rfl) .i64 (i : Int) (by omega) (by omega), hel]
    simp [Result.andThen, sliced, Addr.add]
  have hs2 : ∀ W, (Instr.slice 43 (.slice (some ⟨b0, off, none⟩) ni ic) (some (.int .i64 ((i : Int) + 1))) none none).run Try.prog W = .ok (.slice (if ic = i + 1 then some ⟨b0, off, none⟩ else (some (⟨b0, off, none⟩ : Addr)).map (·.add ((i + 1) * 5))) (ni - (i + 1)) (ic - (i + 1))) W := fun W => by
    rw [run_slice_l (P := Try.prog) W 43 (some ⟨b0, off, none⟩) ni ic (by kernel_rfl) .i64 ((i : Int) + 1) (by omega) (by omega), hel]
    rw [show ((i : Int) + 1).toNat = i + 1 by omega]
    rfl
  clear hel
  generalize hA2 : (if ic = i + 1 then some (⟨b0, off, none⟩ : Addr) else (some (⟨b0, off, none⟩ : Addr)).map (·.add ((i + 1) * 5))) = A2 at hs2
  have HA2 := hide hA2
  clear hA2
  have HWR : Hid (IntKind.i64.wrap ((i : Int) + 1) = (i : Int) + 1) := IntWalk.i64_in _ (by omega)
  refine wp_region_tail (S := fun w' => Below W4.heap.size W4 w') 12 (by kernel_rfl) (by kernel_rfl) ((Below.refl _ _).drew) (fun hHeld => ?_)
  generalize W4.drew = V at *
  refine wpAnyT_take (i := 1) (oi := ⟨some 39, _, _, _, _, _⟩) (v := ?_) rfl (by kernel_rfl) (fun _ _ _ h => h) (Or.inl ⟨by rfl, ?_⟩) hHeld ?_
  rotate_left
  · intro v hS
    skip
    go_simp
    with_reducible rfl
  (try simp only [Act.put, List.setIfInBounds_toArray, List.set_cons_zero, List.set_cons_succ])
  refine wpAnyT_take (i := 2) (oi := ⟨some 40, _, _, _, _, _⟩) (v := ?_) rfl (by kernel_rfl) (fun _ _ _ h => h) (Or.inl ⟨by rfl, ?_⟩) hHeld ?_
  rotate_left
  · intro v hS
    have c3 := cellB hS x3
    go_simp
    with_reducible rfl
  (try simp only [Act.put, List.setIfInBounds_toArray, List.set_cons_zero, List.set_cons_succ])
  refine wpAnyT_take (i := 3) (oi := ⟨some 41, _, _, _, _, _⟩) (v := ?_) rfl (by kernel_rfl) (fun _ _ _ h => h) (Or.inl ⟨by rfl, ?_⟩) hHeld ?_
  rotate_left
  · intro v hS
    skip
    go_simp
    with_reducible rfl
  (try simp only [Act.put, List.setIfInBounds_toArray, List.set_cons_zero, List.set_cons_succ])
  refine wpAnyT_take (i := 4) (oi := ⟨some 42, _, _, _, _, _⟩) (v := ?_) rfl (by kernel_rfl) (fun _ _ _ h => h) (Or.inl ⟨by rfl, ?_⟩) hHeld ?_
  rotate_left
  · intro v hS
    have c3 := hs1
    go_simp
    with_reducible rfl
  (try simp only [Act.put, List.setIfInBounds_toArray, List.set_cons_zero, List.set_cons_succ])
  refine wpAnyT_take (i := 6) (oi := ⟨some 44, _, _, _, _, _⟩) (v := ?_) rfl (by kernel_rfl) (fun _ _ _ h => h) (Or.inl ⟨by rfl, ?_⟩) hHeld ?_
  rotate_left
  · intro v hS
    skip
    go_simp
    with_reducible rfl
  (try simp only [Act.put, List.setIfInBounds_toArray, List.set_cons_zero, List.set_cons_succ])
  refine wpAnyT_take (i := 7) (oi := ⟨some 45, _, _, _, _, _⟩) (v := ?_) rfl (by kernel_rfl) (fun _ _ _ h => h) (Or.inl ⟨by rfl, ?_⟩) hHeld ?_
  rotate_left
  · intro v hS
    have c3 := cellB hS x3
    go_simp
    with_reducible rfl
  (try simp only [Act.put, List.setIfInBounds_toArray, List.set_cons_zero, List.set_cons_succ])
  refine wpAnyT_take (i := 8) (oi := ⟨some 46, _, _, _, _, _⟩) (v := ?_) rfl (by kernel_rfl) (fun _ _ _ h => h) (Or.inl ⟨by rfl, ?_⟩) hHeld ?_
  rotate_left
  · intro v hS
    skip
    go_simp
    with_reducible rfl
  (try simp only [Act.put, List.setIfInBounds_toArray, List.set_cons_zero, List.set_cons_succ])
  refine wpAnyT_take (i := 9) (oi := ⟨some 47, _, _, _, _, _⟩) (v := ?_) rfl (by kernel_rfl) (fun _ _ _ h => h) (Or.inl ⟨by rfl, ?_⟩) hHeld ?_
  rotate_left
  · intro v hS
    have c3 := HWR.out
    go_simp
    with_reducible rfl
  (try simp only [Act.put, List.setIfInBounds_toArray, List.set_cons_zero, List.set_cons_succ])
  refine wpAnyT_take (i := 10) (oi := ⟨some 48, _, _, _, _, _⟩) (v := ?_) rfl (by kernel_rfl) (fun _ _ _ h => h) (Or.inl ⟨by rfl, ?_⟩) hHeld ?_
  rotate_left
  · intro v hS
    have c3 := hs2
    go_simp
    with_reducible rfl
  (try simp only [Act.put, List.setIfInBounds_toArray, List.set_cons_zero, List.set_cons_succ])
  clear hs1 hs2 x3
  have HT1 := hide (HRI.out.first (k := i) (by omega))
  rw [itF_take] at HT1
  have hc2 := HRI.out.cut (k := i + 1) (cap := ic) (by omega) hicap
  rw [HA2.out, itF_drop] at hc2
  have HT2 := hide hc2
  clear hc2 HA2
  have HM1 : Hid (∀ u ∈ itF (ps.take i), u.oneCell' = true) := fun u hu => HI1.out u (by rw [← itF_take] at hu; exact List.mem_of_mem_take hu)
  have HM2 : Hid (∀ u ∈ itF (ps.drop (i + 1)), u.oneCell' = true) := fun u hu => HI1.out u (by rw [← itF_drop] at hu; exact List.mem_of_mem_drop hu)
  have HER := hide (itF_erase ps i)
  refine wpAnyT_ready (rs := [0]) (by kernel_rfl) (by simp) (by rfl) (AllT.cons rfl (fun K hK => ?_) AllT.nil)
  go_simp
  refine hK.out _ _ (hHeld.alloc hHeld.size _) (fun hHeld1 => ?_)
  clear hK K
  have X0 := hide (heap_alloc_new V (.cells #[] 89))
  have G0 := hide hHeld.size
  clear hHeld
  generalize V.heap.size = g0 at *
  generalize V.alloc (.cells #[] 89) = V5 at *
  clear V
  refine wpAnyT_ready (rs := [5]) (by kernel_rfl) (by simp) (by rfl) (AllT.cons rfl (fun K hK => ?_) AllT.nil)
  refine step_append_any _ rfl (.tmp 38) (.tmp 42) 43 rfl W4.heap.size 89 i0 _ 5 56 Try.underlying43 hi0 hz0 hz1 hz2 rfl (by decide) (.slice (some ⟨g0, 0, none⟩) 0 0) 0 [] rfl (own_empty X0.out G0.out) W4.heap.size (some ⟨b0, off, none⟩) i ic (itF (ps.take i)) rfl (HT1.out.below hHeld1) HM1.out (by unfold maxLen; omega) (by omega) hHeld1.size ?_
  intro v5 w5 hown5 hg5 hat5
  refine hK.out _ _ (hHeld1.grown hg5 hHeld1.size (fun g hg => by have := G0.out; simp [Value.ownBlock] at hg; omega)) (fun hHeld => ?_)
  clear hK K hat5 hHeld1 hg5 X0
  have HO5 := hide hown5
  clear hown5
  refine wpAnyT_ready (rs := [11]) (by kernel_rfl) (by simp) (by rfl) (AllT.cons rfl (fun K hK => ?_) AllT.nil)
  refine step_append_any _ rfl (.tmp 43) (.tmp 48) 43 rfl W4.heap.size 89 i0 _ 5 56 Try.underlying43 hi0 hz0 hz1 hz2 rfl (by decide) v5 (0 + i) ([] ++ itF (ps.take i)) rfl HO5.out W4.heap.size A2 (ni - (i + 1)) (ic - (i + 1)) (itF (ps.drop (i + 1))) rfl (HT2.out.below hHeld) HM2.out (by unfold maxLen; omega) (by omega) hHeld.size ?_
  intro v6 w6 hown6 hg6 hat6
  obtain ⟨A6, cap6, hv6⟩ := own_slice hown6
  subst hv6
  refine hK.out _ _ (hHeld.grown hg6 hHeld.size (fun g hg => (HO5.out.lt g hg).1)) (fun hB6 => ?_)
  clear hK K hHeld hg6 HO5 hat6
  have HB6 := hide hB6
  clear hB6
  refine wpAnyT_done (by kernel_rfl) ?_
  have ee : 0 + i + (ni - (i + 1)) = ni - 1 := by omega
  rw [ee, List.nil_append, HER.out] at hown6
  (try simp only [Act.put, List.setIfInBounds_toArray, List.set_cons_zero, List.set_cons_succ])
  simp only [ee]
  clear ee HER
  have HO6 := hide hown6
  clear hown6
  obtain ⟨r0, r1, r2, r3, r4⟩ := four_of (keep HX4.out HB6.out)
  have r5 := frozen_of_row w6 w.heap.size 3 _ _ (keep HX4.out HB6.out)
  simp only [List.drop_succ_cons, List.drop_zero, List.toList_toArray]
  go_wp2_with (at_builtin; apply Hid.out)
  refine hide ?_
  clear r0 r1 r2 r3 r4 r5
  have KX : Hid ((w6.setCell ⟨w.heap.size, 3, none⟩ (.slice A6 (ni - 1) cap6)).heap[w.heap.size]? = some (.cells #[.slice bA nb bc, .int .i64 t, .slice lA nl lc, .slice A6 (ni - 1) cap6] 45 (0, 0))) := set_blk (keep HX4.out HB6.out)
  have KY := hide (set_far (x := w.heap.size) (j := 3) (u := .slice A6 (ni - 1) cap6) (keep HY4.out HB6.out) (by omega))
  have KZ := hide (set_far (x := w.heap.size) (j := 3) (u := .slice A6 (ni - 1) cap6) (keep HZ4.out HB6.out) (by omega))
  have KF := hide (set_far (x := w.heap.size) (j := 3) (u := .slice A6 (ni - 1) cap6) (keep HFR.out HB6.out) (by omega))
  have KB := hide ((HB4.out.trans (HB6.out.mono HB4.out.size)).setCell (p := ⟨w.heap.size, 3, none⟩) (Nat.le_refl _) (.slice A6 (ni - 1) cap6))
  have KO := hide (own_set HO6.out (p := ⟨w.heap.size, 3, none⟩) (by simp; omega) (.slice A6 (ni - 1) cap6))
  have hz7 : W4.heap.size ≤ (w6.setCell ⟨w.heap.size, 3, none⟩ (.slice A6 (ni - 1) cap6)).heap.size := by have := HB6.out.size; simpa [World.setCell] using this
  have h76 : w6.heap.size = (w6.setCell ⟨w.heap.size, 3, none⟩ (.slice A6 (ni - 1) cap6)).heap.size := by simp [World.setCell]
  generalize w6.setCell ⟨w.heap.size, 3, none⟩ (.slice A6 (ni - 1) cap6) = W7 at *
  rw [h76]
  clear h76
  clear HX4 HY4 HZ4 HB6 HO6 HRI HT1 HT2 HM1 HM2 HI1
  have HRL7 := hide (HRLA.out _ KB.out)
  have HLI := hide (fun u (hu : u ∈ ints R.left) => show u.oneCell' = true by unfold ints at hu; obtain ⟨z, _, rfl⟩ := List.mem_map.1 hu; rfl)
  refine wpList_append_any _ rfl (.tmp 51) (.tmp 53) 22 rfl W7.heap.size 3 j0 _ 1 8 Try.underlying22 hj0 hy0 hy1 hy2 rfl (by decide) (.slice (some ⟨W7.heap.size, 0, none⟩) 0 0) 0 [] rfl (own_empty (heap_alloc_new W7 _) (Nat.le_refl _)) W7.heap.size lA nl lc (ints R.left) rfl (HRL7.out.alloc (Nat.le_refl _) _) HLI.out (by unfold maxLen; omega) (by omega) (by simp) ?_
  intro v7 w8 hown7 hg7 hat7
  clear hat7
  simp only [Nat.zero_add, List.nil_append] at hown7
  obtain ⟨g7, cap7, hv7, hg7b, hg7l, -, -⟩ := slice_of_own hown7 (by omega)
  subst hv7
  have hB8 : Below W7.heap.size W7 w8 := ((Below.refl _ _).alloc (Nat.le_refl _) _).grown hg7 (by simp) (fun r hr => by simp [Value.ownBlock] at hr; omega)
  clear hg7
  have hc7 := hown7.cellAt v (by omega)
  have hf7 := hown7.frozenAt v
  have LX := hide (keep KX.out hB8)
  have LY := hide (keep KY.out hB8)
  have LZ := hide (keep KZ.out hB8)
  have LF := hide (keep KF.out hB8)
  have hvl : v < (ints R.left).length := by rw [hown7.1]; omega
  rw [List.getElem?_eq_getElem hvl] at hc7
  generalize (ints R.left)[v] = u7 at hc7
  have HC7 := hide hc7
  have HF7 := hide hf7
  have HO7 := hide hown7
  have HB8 := hide hB8
  clear hc7 hf7 hown7 hB8 hvl KX KY KZ KF
  obtain ⟨x0, x1, x2, x3, xl⟩ := four_of LX.out
  obtain ⟨y0, y1, y2, y3, yl⟩ := four_of LF.out
  have q2 := frozen_of_row w8 w.heap.size 2 _ _ LX.out
  have c7 := HC7.out
  have f7 := HF7.out
  have hw4 := HB4.out.size
  have ne7 : ¬ g7 = w.heap.size := by omega
  have ne7' : ¬ w.heap.size = g7 := by omega
  go_wp2_with fail
  have S1 : Hid ((w8.setCell ⟨w.heap.size, 2, none⟩ (.slice (some ⟨g7, 0, none⟩) nl cap7)).heap[w.heap.size]? = some (.cells #[.slice bA nb bc, .int .i64 t, .slice (some ⟨g7, 0, none⟩) nl cap7, .slice A6 (ni - 1) cap6] 45 (0, 0))) := set_blk LX.out
  have MX := hide (set_far (x := g7) (j := v) (u := .int .i64 t) S1.out (by omega))
  have MY := hide (set_far (x := g7) (j := v) (u := .int .i64 t) (set_far (x := w.heap.size) (j := 2) (u := .slice (some ⟨g7, 0, none⟩) nl cap7) LY.out (by omega)) (by omega))
  have MZ := hide (set_far (x := g7) (j := v) (u := .int .i64 t) (set_far (x := w.heap.size) (j := 2) (u := .slice (some ⟨g7, 0, none⟩) nl cap7) LZ.out (by omega)) (by omega))
  have MF := hide (set_far (x := g7) (j := v) (u := .int .i64 t) (set_far (x := w.heap.size) (j := 2) (u := .slice (some ⟨g7, 0, none⟩) nl cap7) LF.out (by omega)) (by omega))
  have MB := hide (((KB.out.trans (HB8.out.mono KB.out.size)).setCell (p := ⟨w.heap.size, 2, none⟩) (Nat.le_refl _) (.slice (some ⟨g7, 0, none⟩) nl cap7)).setCell (p := ⟨g7, v, none⟩) (by simp only; omega) (.int .i64 t))
  have MO6 := hide (ownsRow_setCell_other (own_set (own_below KO.out HB8.out) (p := ⟨w.heap.size, 2, none⟩) (by simp only; omega) (.slice (some ⟨g7, 0, none⟩) nl cap7)) (a := ⟨g7, v, none⟩) (fun e => by have := (KO.out.lt _ e).2; simp only at this; omega) (.int .i64 t))
  have MO7' := ((own_set HO7.out (p := ⟨w.heap.size, 2, none⟩) (by simp only; omega) (.slice (some ⟨g7, 0, none⟩) nl cap7)).stored v (.int .i64 t)).1
  have es : (ints R.left).set v (.int .i64 t) = (R.left.set v t).map (Value.int .i64) := by unfold ints; rw [List.map_set]
  rw [es] at MO7'
  have MO7 := hide MO7'
  clear MO7' es S1 LX LY LZ LF HC7 HF7 HO7 HB8 c7 f7 x0 x1 x2 x3 xl y0 y1 y2 y3 yl q2
  generalize (w8.setCell ⟨w.heap.size, 2, none⟩ (.slice (some ⟨g7, 0, none⟩) nl cap7)).setCell ⟨g7, v, none⟩ (.int .i64 t) = W9 at *
  obtain ⟨x0, x1, x2, x3, xl⟩ := four_of MX.out
  obtain ⟨f0', f1', f2', f3', fl⟩ := four_of MF.out
  obtain ⟨y0, y1, y2, y3, yl⟩ := four_of MY.out
  obtain ⟨z0, z1, z2, z3, zl⟩ := four_of MZ.out
  have HY := MY
  have HZ := MZ
  have g0 := frozen_of_row W9 (w.heap.size + 1) 0 _ _ HY.out
  have g1 := frozen_of_row W9 (w.heap.size + 1) 1 _ _ HY.out
  have g2 := frozen_of_row W9 (w.heap.size + 1) 2 _ _ HY.out
  have g3 := frozen_of_row W9 (w.heap.size + 1) 3 _ _ HY.out
  have k0 := frozen_of_row W9 (w.heap.size + 1 + 1) 0 _ _ HZ.out
  have k1 := frozen_of_row W9 (w.heap.size + 1 + 1) 1 _ _ HZ.out
  have k2 := frozen_of_row W9 (w.heap.size + 1 + 1) 2 _ _ HZ.out
  have k3 := frozen_of_row W9 (w.heap.size + 1 + 1) 3 _ _ HZ.out
  clear HY HZ
  have nf1 : ¬ f0 = w.heap.size + 1 := by omega
  have nf2 : ¬ f0 = w.heap.size + 1 + 1 := by omega
  have nf3 : ¬ w.heap.size + 1 = f0 := by omega
  have nf5 : ¬ w.heap.size = w.heap.size + 1 + 1 := by omega
  have nf6 : ¬ w.heap.size + 1 + 1 = w.heap.size := by omega
  have nf4 : ¬ w.heap.size + 1 + 1 = f0 := by omega
  go_region_held3 (fun w' => w'.cell? ⟨w.heap.size, 0, none⟩ = some (.slice bA nb bc) ∧ w'.cell? ⟨w.heap.size, 1, none⟩ = some (.int .i64 t) ∧ w'.cell? ⟨w.heap.size, 2, none⟩ = some (.slice (some ⟨g7, 0, none⟩) nl cap7) ∧ w'.cell? ⟨w.heap.size, 3, none⟩ = some (.slice A6 (ni - 1) cap6) ∧ w'.cell? ⟨f0, 0, none⟩ = some (.int .i64 (v : Int)) ∧ w'.cell? ⟨f0, 1, none⟩ = some (.int .i64 xnet) ∧ w'.cell? ⟨f0, 2, none⟩ = some (.int .i64 xseq) ∧ w'.cell? ⟨f0, 3, none⟩ = some (.slice dA xn dc)) (go_keep) (fail)
  go_wp2_with fail
  refine bodyPost_ret (v := .tuple #[.agg #[.slice bA nb bc, .int .i64 t, .slice (some ⟨g7, 0, none⟩) nl cap7, .slice A6 (ni - 1) cap6], .agg #[.int .i64 (v : Int), .int .i64 xnet, .int .i64 xseq, .slice dA xn dc], .bool true, .int .i64 0]) (by simp [results, Try.results38, go_sem, y0, y1, y2, y3, yl, z0, z1, z2, z3, zl]) rfl (HR.out _ (some ⟨g7, 0, none⟩) A6 cap7 cap6 W7.heap.size W4.heap.size (ni - 1) ?_ (by omega) (by omega) rfl ?_ ?_)
  · refine Below.drew (Below.setCell (Below.setCell (Below.setCell (Below.setCell (Below.setCell (Below.setCell (Below.setCell (Below.setCell MB.out ?_ _) ?_ _) ?_ _) ?_ _) ?_ _) ?_ _) ?_ _) ?_ _)
    all_goals (simp only; omega)
  · refine World.ownsRow.drew (own_set (own_set (own_set (own_set (own_set (own_set (own_set (own_set MO7.out ?_ _) ?_ _) ?_ _) ?_ _) ?_ _) ?_ _) ?_ _) ?_ _)
    all_goals (simp only; omega)
  · refine World.ownsRow.drew (own_set (own_set (own_set (own_set (own_set (own_set (own_set (own_set MO6.out ?_ _) ?_ _) ?_ _) ?_ _) ?_ _) ?_ _) ?_ _) ?_ _)
    all_goals (simp only; omega)
end Go.Proofs.Ythahnliddoijoaa
