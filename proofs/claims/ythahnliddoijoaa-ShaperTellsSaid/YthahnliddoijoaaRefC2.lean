/-
  nacelleref18: Offer: the fine case.
-/
import Derived.Test.YthahnliddoijoaaRefC
import Derived.Test.YthahnliddoijoaaTail
namespace Go.Proofs.Ythahnliddoijoaa
open Go.RowKit
theorem cellB {W w' : World} (hb : Below W.heap.size W w') {b o : Nat} {v : Value} (h : W.cell? ⟨b, o, none⟩ = some v) : w'.cell? ⟨b, o, none⟩ = some v :=
  (hb.cell (p := ⟨b, o, none⟩) (World.block_lt_of_cell? W ⟨b, o, none⟩ h)).trans h
theorem own_below {w w' : World} {base e size n : Nat} {v : Value} {xs : List Value} (h : w.ownsRow base e size v n xs) (hb : Below w.heap.size w w') : w'.ownsRow base e size v n xs := by
  refine ⟨h.1, ?_⟩
  rcases h.2 with hn | ⟨g, cap, cur, hv, hb', hg, rest⟩
  · exact .inl hn
  · exact .inr ⟨g, cap, cur, hv, hb', (hb.block g (Array.getElem?_eq_some_iff.1 hg).1).trans hg, rest⟩
theorem RAt.push {w W : World} {R : RS} {bA lA iA A1 A6 : Option Addr} {ps : List (It × Value)} {F : Nat → Prop} (h : RAt w R bA lA iA ps F) (hb : Below w.heap.size w W) {t vl net seq : Int} {bs : List Int} {dn c1 c6 b1 b6 : Nat} (t0 : 0 ≤ t) (t1 : t ≤ 1073741824) (v0 : 0 ≤ vl) (v1 : vl < R.bags.length) (hf : R.items.length < 1000)
    (hF : ∀ k, F k → k < w.heap.size) (g1 : w.heap.size ≤ b1) (g6 : w.heap.size ≤ b6) (hl : bs.length = dn) (hd : W.ownsRow b1 5 1 (.slice A1 dn c1) dn (u8s bs))
    (ho : W.ownsRow b6 89 5 (.slice A6 (R.items.length + 1) c6) (R.items.length + 1) (itF ps ++ [.int .i64 t, .int .i64 vl, .int .i64 net, .int .i64 seq, .slice A1 dn c1])) :
    RAt W ⟨R.bags, t, R.left, R.items ++ [⟨t, vl, net, seq, bs⟩]⟩ bA lA A6 (ps ++ [(⟨t, vl, net, seq, bs⟩, .slice A1 dn c1)]) F := by
  have h' := h.below hb
  subst hl
  have hps : ps.length = R.items.length := by rw [← h.fst]; simp
  refine ⟨by rw [List.map_append, h.fst]; rfl, h'.bags, h'.left_, ?_, h.b16, h.l16, t0, t1, h.bok, h.lok, fun x hx => ?_, fun x hx => ?_, by rw [List.length_append]; show _ + 1 ≤ _; omega⟩
  · have e : itF (ps ++ [(⟨t, vl, net, seq, bs⟩, .slice A1 bs.length c1)]) = itF ps ++ [.int .i64 t, .int .i64 vl, .int .i64 net, .int .i64 seq, .slice A1 bs.length c1] := by rw [itF_app]; rfl
    have el : (R.items ++ [(⟨t, vl, net, seq, bs⟩ : It)]).length = R.items.length + 1 := by rw [List.length_append]; rfl
    show Its W A6 (R.items ++ [_]).length _ F
    rw [el]
    refine Its.of_own (by rw [e]; exact ho) (by rw [List.length_append, hps]; rfl) (fun k hk => Nat.lt_of_lt_of_le (hF k hk) g6) (fun p hp => ?_)
    rcases List.mem_append.1 hp with hp | hp
    · exact h'.items.pay p hp
    · obtain rfl : p = _ := List.mem_singleton.1 hp
      exact ⟨A1, c1, rfl, Bts.of_own hd rfl (fun k hk => Nat.lt_of_lt_of_le (hF k hk) g1)⟩
  · rcases List.mem_append.1 hx with hx | hx
    · exact h.vls x hx
    · obtain rfl : x = _ := List.mem_singleton.1 hx
      exact ⟨v0, v1⟩
  · rcases List.mem_append.1 hx with hx | hx
    · exact h.tms x hx
    · obtain rfl : x = _ := List.mem_singleton.1 hx
      exact ⟨t0, t1⟩
set_option maxRecDepth 100000 in
set_option maxHeartbeats 4000000 in
theorem roffer_fine (R : RS) (bA lA iA : Option Addr) (bc lc ic : Nat) (ps : List (It × Value)) (F : Nat → Prop) (t vl net seq : Int) (dA : Option Addr) (dn dc : Nat) (bs : List Int) (w : World) (h : Hid (RAt w R bA lA iA ps F))
    (hlate : Hid (R.late t = false)) (t0 : 0 ≤ t) (t1 : t ≤ 1073741824) (v0 : 0 ≤ vl) (v1 : vl < R.bags.length) (hw : Hid (R.waiting vl ≠ 16)) (hF : Hid (∀ k, F k → k < w.heap.size)) (hd : Hid (Bts w dA dn bs F)) (hdn : dn ≤ 1000) (hf : R.items.length < 1000) :
    Calls Try.prog 35 #[RSV R bA lA iA bc lc ic, .int .i64 t, frameV vl net seq dA dn dc] w fun e w' => OffR w w' ⟨R.bags, t, R.left, R.items ++ [⟨t, vl, net, seq, bs⟩]⟩ e 0 bA lA bc lc F := by
  have HR : Hid (∀ W A1 A6 c1 c6 b1 b6, Below w.heap.size w W → w.heap.size ≤ b1 → w.heap.size ≤ b6 → W.ownsRow b1 5 1 (.slice A1 dn c1) dn (u8s bs) → W.ownsRow b6 89 5 (.slice A6 (R.items.length + 1) c6) (R.items.length + 1) (itF ps ++ [.int .i64 t, .int .i64 vl, .int .i64 net, .int .i64 seq, .slice A1 dn c1]) →
      OffR w W ⟨R.bags, t, R.left, R.items ++ [⟨t, vl, net, seq, bs⟩]⟩ (.returned (.tuple #[.agg #[.slice bA R.bags.length bc, .int .i64 t, .slice lA R.left.length lc, .slice A6 (R.items.length + 1) c6], .int .i64 0])) 0 bA lA bc lc F) := fun W A1 A6 c1 c6 b1 b6 hb g1 g6 hd1 ho =>
    ⟨A6, c6, _, by unfold RSV; simp only [List.length_append, List.length_cons, List.length_nil, Nat.zero_add], h.out.push hb t0 t1 v0 v1 hf hF.out g1 g6 hd.out.1 hd1 ho, hb, by rw [List.length_append]; exact own_cap ho⟩
  obtain ⟨i0, hi0, hz0, hz1, hz2⟩ := info_parts itemInfo
  obtain ⟨j0, hj0, hy0, hy1, hy2⟩ := info_parts u8Info
  have hwt := hw.out
  have HE := hide (fun W => early_any R bA lA iA bc lc ic t W)
  have HWT := hide (fun W (hW : Hid (RAt W ⟨R.bags, t, R.left, R.items⟩ bA lA iA ps F)) => rwaiting_any ⟨R.bags, t, R.left, R.items⟩ bA lA iA bc lc ic ps F vl W hW)
  rw [hlate.out] at HE
  have HWW : Hid ((⟨R.bags, t, R.left, R.items⟩ : RS).waiting vl = R.waiting vl) := rfl
  rw [HWW.out] at HWT
  unfold RSV at HE HWT ⊢
  dsimp only at HE HWT
  unfold frameV
  generalize R.waiting vl = wt at *
  generalize hni : R.items.length = ni at *
  have HNI := hide hni
  clear hni
  generalize hnb : R.bags.length = nb at *
  generalize R.left.length = nl at *
  generalize R.clock = ck at *
  go_enter Try.func35, Try.ntmps35
  go_wp2_with fail
  refine (HE.out _).mono ?_
  rintro e w1 ⟨rfl, hb⟩
  obtain ⟨hX, hY, hZ, hsz, hb⟩ := box3 hb
  have HB := hide hb
  obtain ⟨x0, x1, x2, x3, xl⟩ := four_of hX
  obtain ⟨y0, y1, y2, y3, yl⟩ := four_of hY
  have f1 := frozen_of_row w1 w.heap.size 1 _ _ hX
  have HX : Hid ((w1.setCell ⟨w.heap.size, 1, none⟩ (.int .i64 t)).heap[w.heap.size]? = some (.cells #[.slice bA nb bc, .int .i64 t, .slice lA nl lc, .slice iA ni ic] 45 (0, 0))) := set_blk hX
  have HY := hide (set_far (x := w.heap.size) (j := 1) (u := .int .i64 t) hY (by omega))
  have HZ := hide (set_far (x := w.heap.size) (j := 1) (u := .int .i64 t) hZ (by omega))
  have HB1 := hide (HB.out.setCell (p := ⟨w.heap.size, 1, none⟩) (Nat.le_refl _) (.int .i64 t))
  have hsz1 : w.heap.size + 3 ≤ (w1.setCell ⟨w.heap.size, 1, none⟩ (.int .i64 t)).heap.size := by simpa [World.setCell] using hsz
  clear hb hX hY hZ HB
  go_wp2_with fail
  generalize w1.setCell ⟨w.heap.size, 1, none⟩ (.int .i64 t) = W1 at *
  clear x0 x1 x2 x3 xl y0 y1 y2 y3 yl f1 hsz
  refine (HWT.out W1 (hide ((h.out.below HB1.out).clock t0 t1))).mono ?_
  rintro e w2 ⟨rfl, hb⟩
  have HX2 := hide (keep HX.out hb)
  have HY2 := hide (keep HY.out hb)
  have HZ2 := hide (keep HZ.out hb)
  have HB2 := hide (HB1.out.trans (hb.mono HB1.out.size))
  have hsz2 : w.heap.size + 3 ≤ w2.heap.size := Nat.le_trans hsz1 hb.size
  obtain ⟨x0, x1, x2, x3, xl⟩ := four_of HX2.out
  obtain ⟨y0, y1, y2, y3, yl⟩ := four_of HY2.out
  obtain ⟨z0, z1, z2, z3, zl⟩ := four_of HZ2.out
  have g0 := frozen_of_row w2 (w.heap.size + 1 + 1) 0 _ _ HZ2.out
  have g1 := frozen_of_row w2 (w.heap.size + 1 + 1) 1 _ _ HZ2.out
  have g2 := frozen_of_row w2 (w.heap.size + 1 + 1) 2 _ _ HZ2.out
  have g3 := frozen_of_row w2 (w.heap.size + 1 + 1) 3 _ _ HZ2.out
  clear hb HX HY HZ HB1 hsz1
  have hw16 : ((wt : Int) == 16) = false := by simp; omega
  clear hwt
  have q3 := frozen_of_row w2 (w.heap.size + 1) 3 _ _ HY2.out
  have HD2 := hide ((hd.out.swap (F' := F) (G := fun _ => False) (.of_below (F := fun _ => False) HB2.out) (fun _ h => h.elim) (fun _ h => .inl h)).reads)
  have HE0 := hide (own_empty (base := w2.heap.size) (size := 1) (heap_alloc_new w2 (.cells #[] 5)) (Nat.le_refl _))
  go_wp2_with (at_builtin; refine wpList_append_any _ rfl _ _ 31 rfl w2.heap.size 5 j0 _ 1 1 Try.underlying31 hj0 hy0 hy1 hy2 rfl (by decide) _ 0 [] rfl HE0.out _ dA dn dc (u8s bs) rfl (HD2.out.alloc (by simp) _) (u8s_one bs) (by unfold maxLen; omega) (by omega) (by simp) ?_; intro v1 w3 hown1 hg1 _; obtain ⟨A1, cap1, hv1⟩ := own_slice hown1; subst hv1; have hb3 : Below w2.heap.size w2 w3 := ((Below.refl _ _).alloc (Nat.le_refl _) _).grown hg1 (by simp) (fun r hr => (HE0.out.lt r hr).1); have p0 := four_of (keep HX2.out hb3); have p1 := four_of (keep HY2.out hb3); obtain ⟨x0, x1, x2, x3, xl⟩ := p0; obtain ⟨y0, y1, y2, y3, yl⟩ := p1; have q3 := frozen_of_row w3 (w.heap.size + 1) 3 _ _ (keep HY2.out hb3))
  have hb3 : Below w2.heap.size w2 w3 := ((Below.refl _ _).alloc (Nat.le_refl _) _).grown hg1 (by simp) (fun r hr => (HE0.out.lt r hr).1)
  simp only [Nat.zero_add, List.nil_append] at hown1
  have hw3 : w2.heap.size ≤ w3.heap.size := hb3.size
  have HX3 : Hid ((w3.setCell ⟨w.heap.size + 1, 3, none⟩ (.slice A1 dn cap1)).heap[w.heap.size]? = some (.cells #[.slice bA nb bc, .int .i64 t, .slice lA nl lc, .slice iA ni ic] 45 (0, 0))) := set_far (keep HX2.out hb3) (by omega)
  have HY3 : Hid ((w3.setCell ⟨w.heap.size + 1, 3, none⟩ (.slice A1 dn cap1)).heap[w.heap.size + 1]? = some (.cells #[.int .i64 vl, .int .i64 net, .int .i64 seq, .slice A1 dn cap1] 33 (0, 0))) := set_blk (keep HY2.out hb3)
  have HZ3 : Hid ((w3.setCell ⟨w.heap.size + 1, 3, none⟩ (.slice A1 dn cap1)).heap[w.heap.size + 1 + 1]? = some (.cells #[.slice none 0 0, .int .i64 0, .slice none 0 0, .slice none 0 0] 45 (0, 0))) := set_far (keep HZ2.out hb3) (by omega)
  have HB3 := hide ((HB2.out.trans (hb3.mono HB2.out.size)).setCell (p := ⟨w.heap.size + 1, 3, none⟩) (by simp) (.slice A1 dn cap1))
  have HO3 := hide (own_set hown1 (p := ⟨w.heap.size + 1, 3, none⟩) (by simp; omega) (.slice A1 dn cap1))
  have hsz3 : w2.heap.size ≤ (w3.setCell ⟨w.heap.size + 1, 3, none⟩ (.slice A1 dn cap1)).heap.size := by simpa [World.setCell] using hw3
  clear hown1 hg1 hb3 x0 x1 x2 x3 xl y0 y1 y2 y3 yl q3 z0 z1 z2 z3 zl g0 g1 g2 g3 HX2 HY2 HZ2 HB2 HD2 HE0
  generalize w3.setCell ⟨w.heap.size + 1, 3, none⟩ (.slice A1 dn cap1) = W4 at *
  have hRI := (h.out.below HB3.out).items.reads
  rw [HNI.out] at hRI
  have HRI := hide hRI
  have HI1 := hide h.out.items.one
  clear hRI
  obtain ⟨x0, x1, x2, x3, xl⟩ := four_of HX3.out
  obtain ⟨y0, y1, y2, y3, yl⟩ := four_of HY3.out
  have q3 := frozen_of_row W4 w.heap.size 3 _ _ HX3.out
  clear x0 x1 x2
  have HX4 := HX3
  clear HX3
  refine wp_region_tail (S := fun w' => Below W4.heap.size W4 w') 9 (by kernel_rfl) (by kernel_rfl) ((Below.refl _ _).drew) (fun hHeld => ?_)
  generalize W4.drew = V at *
  refine wpAnyT_take (i := 1) (oi := ⟨some 39, _, _, _, _, _⟩) (v := ?_) rfl (by kernel_rfl) (fun _ _ _ h => h) (Or.inl ⟨by rfl, ?_⟩) hHeld ?_
  rotate_left
  · intro v hS
    skip
    go_simp
    with_reducible rfl
  (try simp only [Act.put, List.setIfInBounds_toArray, List.set_cons_zero, List.set_cons_succ])
  refine wpAnyT_take (i := 2) (oi := ⟨some 40, _, _, _, _, _⟩) (v := ?_) rfl (by kernel_rfl) (fun _ _ _ h => h) (Or.inl ⟨by rfl, ?_⟩) hHeld ?_
  rotate_left
  · intro v hS
    have c3 := cellB hS x3
    go_simp
    with_reducible rfl
  (try simp only [Act.put, List.setIfInBounds_toArray, List.set_cons_zero, List.set_cons_succ])
  refine wpAnyT_take (i := 4) (oi := ⟨some 42, _, _, _, _, _⟩) (v := ?_) rfl (by kernel_rfl) (fun _ _ _ h => h) (Or.inl ⟨by rfl, ?_⟩) hHeld ?_
  rotate_left
  · intro v hS
    skip
    go_simp
    with_reducible rfl
  (try simp only [Act.put, List.setIfInBounds_toArray, List.set_cons_zero, List.set_cons_succ])
  refine wpAnyT_take (i := 5) (oi := ⟨some 43, _, _, _, _, _⟩) (v := ?_) rfl (by kernel_rfl) (fun _ _ _ h => h) (Or.inl ⟨by rfl, ?_⟩) hHeld ?_
  rotate_left
  · intro v hS
    have c0 := cellB hS y0; have c1 := cellB hS y1; have c2 := cellB hS y2; have c3 := cellB hS y3
    go_simp
    with_reducible rfl
  (try simp only [Act.put, List.setIfInBounds_toArray, List.set_cons_zero, List.set_cons_succ])
  refine wpAnyT_take (i := 6) (oi := ⟨some 44, _, _, _, _, _⟩) (v := ?_) rfl (by kernel_rfl) (fun _ _ _ h => h) (Or.inl ⟨by rfl, ?_⟩) hHeld ?_
  rotate_left
  · intro v hS
    skip
    go_simp
    with_reducible rfl
  (try simp only [Act.put, List.setIfInBounds_toArray, List.set_cons_zero, List.set_cons_succ])
  clear y0 y1 y2 y3 yl x3 xl q3
  refine wpAnyT_ready (rs := [0, 7]) (by kernel_rfl) (by simp) (by rfl) (AllT.cons rfl (fun K hK => ?_) (AllT.cons rfl (fun K hK => ?_) AllT.nil))
  go_simp
  refine hK.out _ _ (hHeld.alloc hHeld.size _) (fun hHeld1 => ?_)
  clear hK K
  have X0 := hide (heap_alloc_new V (.cells #[] 89))
  have G0 := hide hHeld.size
  have N0 : V.heap.size < (V.alloc (.cells #[] 89)).heap.size := by simp
  skip
  clear hHeld
  have hHeld := hHeld1
  clear hHeld1
  generalize V.heap.size = g0 at *
  generalize V.alloc (.cells #[] 89) = V' at *
  (try clear N7)
  clear V
  obtain ⟨V, rfl⟩ : ∃ V, V = V' := ⟨_, rfl⟩
  refine wpAnyT_ready (rs := [3, 7]) (by kernel_rfl) (by simp) (by rfl) (AllT.cons rfl (fun K hK => ?_) (AllT.cons rfl (fun K hK => ?_) AllT.nil))
  have G0' := G0.out
  refine step_append_any _ rfl (.tmp 38) (.tmp 40) 43 rfl W4.heap.size 89 i0 _ 5 56 Try.underlying43 hi0 hz0 hz1 hz2 rfl (by decide) (.slice (some ⟨g0, 0, none⟩) 0 0) 0 [] rfl (own_empty X0.out G0.out) W4.heap.size iA ni ic (itF ps) rfl (HRI.out.below hHeld) HI1.out (by unfold maxLen; omega) (by omega) hHeld.size ?_
  intro v5 w5 hown5 hg5 hat5
  clear hat5
  refine hK.out _ _ (hHeld.grown hg5 hHeld.size (fun g hg => by simp [Value.ownBlock] at hg; omega)) (fun hHeld1 => ?_)
  clear hK K G0'
  skip
  have HO5 := hide hown5
  clear hHeld hown5 hg5 X0
  (try clear N0)
  (try clear N7)
  have hHeld := hHeld1
  clear hHeld1 V
  obtain ⟨V, rfl⟩ : ∃ V, V = w5 := ⟨_, rfl⟩
  refine wpAnyT_ready (rs := [7]) (by kernel_rfl) (by simp) (by rfl) (AllT.cons rfl (fun K hK => ?_) AllT.nil)
  go_simp
  refine hK.out _ _ (hHeld.alloc hHeld.size _) (fun hHeld1 => ?_)
  clear hK K
  have X7 := hide (heap_alloc_new V (.cells #[.int .i64 t, .int .i64 vl, .int .i64 net, .int .i64 seq, .slice A1 dn cap1] 89))
  have G7 := hide hHeld.size
  have N7 : V.heap.size < (V.alloc (.cells #[.int .i64 t, .int .i64 vl, .int .i64 net, .int .i64 seq, .slice A1 dn cap1] 89)).heap.size := by simp
  have HO5' := hide (HO5.out.alloc (.cells #[.int .i64 t, .int .i64 vl, .int .i64 net, .int .i64 seq, .slice A1 dn cap1] 89)); clear HO5; have HO5 := HO5'; clear HO5'
  clear hHeld
  have hHeld := hHeld1
  clear hHeld1
  generalize V.heap.size = g7 at *
  generalize V.alloc (.cells #[.int .i64 t, .int .i64 vl, .int .i64 net, .int .i64 seq, .slice A1 dn cap1] 89) = V' at *
  (try clear N0)
  clear V
  obtain ⟨V, rfl⟩ : ∃ V, V = V' := ⟨_, rfl⟩
  refine wpAnyT_ready (rs := [8]) (by kernel_rfl) (by simp) (by rfl) (AllT.cons rfl (fun K hK => ?_) AllT.nil)
  refine step_append_any _ rfl (.tmp 41) (.tmp 45) 43 rfl W4.heap.size 89 i0 _ 5 56 Try.underlying43 hi0 hz0 hz1 hz2 rfl (by decide) v5 (0 + ni) ([] ++ itF ps) rfl HO5.out _ (some ⟨g7, 0, none⟩) 1 1 [.int .i64 t, .int .i64 vl, .int .i64 net, .int .i64 seq, .slice A1 dn cap1] rfl (reads_blk5 X7.out) (by simp [Value.oneCell']) (by unfold maxLen; omega) (by omega) hHeld.size ?_
  intro v6 w6 hown6 hg6 hat6
  clear hat6
  obtain ⟨A6, cap6, hv6⟩ := own_slice hown6
  subst hv6
  refine hK.out _ _ (hHeld.grown hg6 hHeld.size (fun g hg => (HO5.out.lt g hg).1)) (fun hB6 => ?_)
  (try clear N0)
  (try clear N7)
  clear hK K hHeld hg6 HO5 X7 V
  obtain ⟨r0, r1, r2, r3, r4⟩ := four_of (keep HX4.out hB6)
  have r5 := frozen_of_row w6 w.heap.size 3 _ _ (keep HX4.out hB6)
  refine wpAnyT_done (by kernel_rfl) ?_
  have ee : 0 + ni + 1 = ni + 1 := by omega
  rw [ee] at hown6
  simp only [List.nil_append] at hown6
  (try simp only [Act.put, List.setIfInBounds_toArray, List.set_cons_zero, List.set_cons_succ])
  (try simp only [ee])
  clear ee
  have HO6 := hide hown6
  have HB6 := hide hB6
  clear hown6 hB6
  simp only [List.drop_succ_cons, List.drop_zero, List.toList_toArray]
  obtain ⟨z0, z1, z2, z3, zl⟩ := four_of (keep HZ3.out HB6.out)
  have e0 := frozen_of_row w6 (w.heap.size + 1 + 1) 0 _ _ (keep HZ3.out HB6.out)
  have e1 := frozen_of_row w6 (w.heap.size + 1 + 1) 1 _ _ (keep HZ3.out HB6.out)
  have e2 := frozen_of_row w6 (w.heap.size + 1 + 1) 2 _ _ (keep HZ3.out HB6.out)
  have e3 := frozen_of_row w6 (w.heap.size + 1 + 1) 3 _ _ (keep HZ3.out HB6.out)
  go_wp2_with fail
  clear r0 r1 r2 r3 r4 r5 z0 z1 z2 z3 zl e0 e1 e2 e3
  have KX : Hid ((w6.setCell ⟨w.heap.size, 3, none⟩ (.slice A6 (ni + 1) cap6)).heap[w.heap.size]? = some (.cells #[.slice bA nb bc, .int .i64 t, .slice lA nl lc, .slice A6 (ni + 1) cap6] 45 (0, 0))) := set_blk (keep HX4.out HB6.out)
  have KZ := hide (set_far (x := w.heap.size) (j := 3) (u := .slice A6 (ni + 1) cap6) (keep HZ3.out HB6.out) (by omega))
  have KB := hide ((HB3.out.trans (HB6.out.mono HB3.out.size)).setCell (p := ⟨w.heap.size, 3, none⟩) (Nat.le_refl _) (.slice A6 (ni + 1) cap6))
  have KO := hide (own_set HO6.out (p := ⟨w.heap.size, 3, none⟩) (by simp; omega) (.slice A6 (ni + 1) cap6))
  have KD := hide (own_set (own_below HO3.out HB6.out) (p := ⟨w.heap.size, 3, none⟩) (by simp; omega) (.slice A6 (ni + 1) cap6))
  generalize w6.setCell ⟨w.heap.size, 3, none⟩ (.slice A6 (ni + 1) cap6) = W7 at *
  obtain ⟨z0, z1, z2, z3, zl⟩ := four_of KZ.out
  have hw2 := HB3.out.size
  refine bodyPost_ret (v := .tuple #[.agg #[.slice bA nb bc, .int .i64 t, .slice lA nl lc, .slice A6 (ni + 1) cap6], .int .i64 0]) (by simp [results, Try.results35, go_sem, z0, z1, z2, z3, zl]) rfl (HR.out _ A1 A6 cap1 cap6 w2.heap.size W4.heap.size ?_ (by omega) hw2 ?_ ?_)
  · exact (((KB.out.setCell (p := ⟨w.heap.size + 1 + 1, 0, none⟩) (by simp; omega) _).setCell (p := ⟨w.heap.size + 1 + 1, 1, none⟩) (by simp; omega) _).setCell (p := ⟨w.heap.size + 1 + 1, 2, none⟩) (by simp; omega) _).setCell (p := ⟨w.heap.size + 1 + 1, 3, none⟩) (by simp; omega) _
  · exact own_set (own_set (own_set (own_set KD.out (p := ⟨w.heap.size + 1 + 1, 0, none⟩) (by simp; omega) _) (p := ⟨w.heap.size + 1 + 1, 1, none⟩) (by simp; omega) _) (p := ⟨w.heap.size + 1 + 1, 2, none⟩) (by simp; omega) _) (p := ⟨w.heap.size + 1 + 1, 3, none⟩) (by simp; omega) _
  · exact own_set (own_set (own_set (own_set KO.out (p := ⟨w.heap.size + 1 + 1, 0, none⟩) (by simp; omega) _) (p := ⟨w.heap.size + 1 + 1, 1, none⟩) (by simp; omega) _) (p := ⟨w.heap.size + 1 + 1, 2, none⟩) (by simp; omega) _) (p := ⟨w.heap.size + 1 + 1, 3, none⟩) (by simp; omega) _
  go_simp
  refine hK.out _ _ (hHeld.alloc hHeld.size _) (fun hHeld1 => ?_)
  clear hK K
  have X7 := hide (heap_alloc_new V (.cells #[.int .i64 t, .int .i64 vl, .int .i64 net, .int .i64 seq, .slice A1 dn cap1] 89))
  have G7 := hide hHeld.size
  have N7 : V.heap.size < (V.alloc (.cells #[.int .i64 t, .int .i64 vl, .int .i64 net, .int .i64 seq, .slice A1 dn cap1] 89)).heap.size := by simp
  have X0' := hide ((Below.heap_alloc V (.cells #[.int .i64 t, .int .i64 vl, .int .i64 net, .int .i64 seq, .slice A1 dn cap1] 89) g0 N0).trans X0.out); have NE : g0 ≠ V.heap.size := (by omega); clear X0; have X0 := X0'; clear X0'
  clear hHeld
  have hHeld := hHeld1
  clear hHeld1
  generalize V.heap.size = g7 at *
  generalize V.alloc (.cells #[.int .i64 t, .int .i64 vl, .int .i64 net, .int .i64 seq, .slice A1 dn cap1] 89) = V' at *
  (try clear N0)
  clear V
  obtain ⟨V, rfl⟩ : ∃ V, V = V' := ⟨_, rfl⟩
  refine wpAnyT_ready (rs := [3]) (by kernel_rfl) (by simp) (by rfl) (AllT.cons rfl (fun K hK => ?_) AllT.nil)
  have G0' := G0.out
  refine step_append_any _ rfl (.tmp 38) (.tmp 40) 43 rfl W4.heap.size 89 i0 _ 5 56 Try.underlying43 hi0 hz0 hz1 hz2 rfl (by decide) (.slice (some ⟨g0, 0, none⟩) 0 0) 0 [] rfl (own_empty X0.out G0.out) W4.heap.size iA ni ic (itF ps) rfl (HRI.out.below hHeld) HI1.out (by unfold maxLen; omega) (by omega) hHeld.size ?_
  intro v5 w5 hown5 hg5 hat5
  clear hat5
  refine hK.out _ _ (hHeld.grown hg5 hHeld.size (fun g hg => by simp [Value.ownBlock] at hg; omega)) (fun hHeld1 => ?_)
  clear hK K G0'
  have X7' := hide (blk_grow X7.out hg5 (by simp [Value.ownBlock]; omega)); clear X7; have X7 := X7'; clear X7'
  have HO5 := hide hown5
  clear hHeld hown5 hg5 X0
  (try clear N0)
  (try clear N7)
  have hHeld := hHeld1
  clear hHeld1 V
  obtain ⟨V, rfl⟩ : ∃ V, V = w5 := ⟨_, rfl⟩
  refine wpAnyT_ready (rs := [8]) (by kernel_rfl) (by simp) (by rfl) (AllT.cons rfl (fun K hK => ?_) AllT.nil)
  refine step_append_any _ rfl (.tmp 41) (.tmp 45) 43 rfl W4.heap.size 89 i0 _ 5 56 Try.underlying43 hi0 hz0 hz1 hz2 rfl (by decide) v5 (0 + ni) ([] ++ itF ps) rfl HO5.out _ (some ⟨g7, 0, none⟩) 1 1 [.int .i64 t, .int .i64 vl, .int .i64 net, .int .i64 seq, .slice A1 dn cap1] rfl (reads_blk5 X7.out) (by simp [Value.oneCell']) (by unfold maxLen; omega) (by omega) hHeld.size ?_
  intro v6 w6 hown6 hg6 hat6
  clear hat6
  obtain ⟨A6, cap6, hv6⟩ := own_slice hown6
  subst hv6
  refine hK.out _ _ (hHeld.grown hg6 hHeld.size (fun g hg => (HO5.out.lt g hg).1)) (fun hB6 => ?_)
  (try clear N0)
  (try clear N7)
  clear hK K hHeld hg6 HO5 X7 V
  obtain ⟨r0, r1, r2, r3, r4⟩ := four_of (keep HX4.out hB6)
  have r5 := frozen_of_row w6 w.heap.size 3 _ _ (keep HX4.out hB6)
  refine wpAnyT_done (by kernel_rfl) ?_
  have ee : 0 + ni + 1 = ni + 1 := by omega
  rw [ee] at hown6
  simp only [List.nil_append] at hown6
  (try simp only [Act.put, List.setIfInBounds_toArray, List.set_cons_zero, List.set_cons_succ])
  (try simp only [ee])
  clear ee
  have HO6 := hide hown6
  have HB6 := hide hB6
  clear hown6 hB6
  simp only [List.drop_succ_cons, List.drop_zero, List.toList_toArray]
  obtain ⟨z0, z1, z2, z3, zl⟩ := four_of (keep HZ3.out HB6.out)
  have e0 := frozen_of_row w6 (w.heap.size + 1 + 1) 0 _ _ (keep HZ3.out HB6.out)
  have e1 := frozen_of_row w6 (w.heap.size + 1 + 1) 1 _ _ (keep HZ3.out HB6.out)
  have e2 := frozen_of_row w6 (w.heap.size + 1 + 1) 2 _ _ (keep HZ3.out HB6.out)
  have e3 := frozen_of_row w6 (w.heap.size + 1 + 1) 3 _ _ (keep HZ3.out HB6.out)
  go_wp2_with fail
  clear r0 r1 r2 r3 r4 r5 z0 z1 z2 z3 zl e0 e1 e2 e3
  have KX : Hid ((w6.setCell ⟨w.heap.size, 3, none⟩ (.slice A6 (ni + 1) cap6)).heap[w.heap.size]? = some (.cells #[.slice bA nb bc, .int .i64 t, .slice lA nl lc, .slice A6 (ni + 1) cap6] 45 (0, 0))) := set_blk (keep HX4.out HB6.out)
  have KZ := hide (set_far (x := w.heap.size) (j := 3) (u := .slice A6 (ni + 1) cap6) (keep HZ3.out HB6.out) (by omega))
  have KB := hide ((HB3.out.trans (HB6.out.mono HB3.out.size)).setCell (p := ⟨w.heap.size, 3, none⟩) (Nat.le_refl _) (.slice A6 (ni + 1) cap6))
  have KO := hide (own_set HO6.out (p := ⟨w.heap.size, 3, none⟩) (by simp; omega) (.slice A6 (ni + 1) cap6))
  have KD := hide (own_set (own_below HO3.out HB6.out) (p := ⟨w.heap.size, 3, none⟩) (by simp; omega) (.slice A6 (ni + 1) cap6))
  generalize w6.setCell ⟨w.heap.size, 3, none⟩ (.slice A6 (ni + 1) cap6) = W7 at *
  obtain ⟨z0, z1, z2, z3, zl⟩ := four_of KZ.out
  have hw2 := HB3.out.size
  refine bodyPost_ret (v := .tuple #[.agg #[.slice bA nb bc, .int .i64 t, .slice lA nl lc, .slice A6 (ni + 1) cap6], .int .i64 0]) (by simp [results, Try.results35, go_sem, z0, z1, z2, z3, zl]) rfl (HR.out _ A1 A6 cap1 cap6 w2.heap.size W4.heap.size ?_ (by omega) hw2 ?_ ?_)
  · exact (((KB.out.setCell (p := ⟨w.heap.size + 1 + 1, 0, none⟩) (by simp; omega) _).setCell (p := ⟨w.heap.size + 1 + 1, 1, none⟩) (by simp; omega) _).setCell (p := ⟨w.heap.size + 1 + 1, 2, none⟩) (by simp; omega) _).setCell (p := ⟨w.heap.size + 1 + 1, 3, none⟩) (by simp; omega) _
  · exact own_set (own_set (own_set (own_set KD.out (p := ⟨w.heap.size + 1 + 1, 0, none⟩) (by simp; omega) _) (p := ⟨w.heap.size + 1 + 1, 1, none⟩) (by simp; omega) _) (p := ⟨w.heap.size + 1 + 1, 2, none⟩) (by simp; omega) _) (p := ⟨w.heap.size + 1 + 1, 3, none⟩) (by simp; omega) _
  · exact own_set (own_set (own_set (own_set KO.out (p := ⟨w.heap.size + 1 + 1, 0, none⟩) (by simp; omega) _) (p := ⟨w.heap.size + 1 + 1, 1, none⟩) (by simp; omega) _) (p := ⟨w.heap.size + 1 + 1, 2, none⟩) (by simp; omega) _) (p := ⟨w.heap.size + 1 + 1, 3, none⟩) (by simp; omega) _
  go_simp
  refine hK.out _ _ (hHeld.alloc hHeld.size _) (fun hHeld1 => ?_)
  clear hK K
  have X7 := hide (heap_alloc_new V (.cells #[.int .i64 t, .int .i64 vl, .int .i64 net, .int .i64 seq, .slice A1 dn cap1] 89))
  have G7 := hide hHeld.size
  have N7 : V.heap.size < (V.alloc (.cells #[.int .i64 t, .int .i64 vl, .int .i64 net, .int .i64 seq, .slice A1 dn cap1] 89)).heap.size := by simp
  skip
  clear hHeld
  have hHeld := hHeld1
  clear hHeld1
  generalize V.heap.size = g7 at *
  generalize V.alloc (.cells #[.int .i64 t, .int .i64 vl, .int .i64 net, .int .i64 seq, .slice A1 dn cap1] 89) = V' at *
  (try clear N0)
  clear V
  obtain ⟨V, rfl⟩ : ∃ V, V = V' := ⟨_, rfl⟩
  refine wpAnyT_ready (rs := [0]) (by kernel_rfl) (by simp) (by rfl) (AllT.cons rfl (fun K hK => ?_) AllT.nil)
  go_simp
  refine hK.out _ _ (hHeld.alloc hHeld.size _) (fun hHeld1 => ?_)
  clear hK K
  have X0 := hide (heap_alloc_new V (.cells #[] 89))
  have G0 := hide hHeld.size
  have N0 : V.heap.size < (V.alloc (.cells #[] 89)).heap.size := by simp
  have X7' := hide ((Below.heap_alloc V (.cells #[] 89) g7 N7).trans X7.out); have NE : V.heap.size ≠ g7 := (by omega); clear X7; have X7 := X7'; clear X7'
  clear hHeld
  have hHeld := hHeld1
  clear hHeld1
  generalize V.heap.size = g0 at *
  generalize V.alloc (.cells #[] 89) = V' at *
  (try clear N7)
  clear V
  obtain ⟨V, rfl⟩ : ∃ V, V = V' := ⟨_, rfl⟩
  refine wpAnyT_ready (rs := [3]) (by kernel_rfl) (by simp) (by rfl) (AllT.cons rfl (fun K hK => ?_) AllT.nil)
  have G0' := G0.out
  refine step_append_any _ rfl (.tmp 38) (.tmp 40) 43 rfl W4.heap.size 89 i0 _ 5 56 Try.underlying43 hi0 hz0 hz1 hz2 rfl (by decide) (.slice (some ⟨g0, 0, none⟩) 0 0) 0 [] rfl (own_empty X0.out G0.out) W4.heap.size iA ni ic (itF ps) rfl (HRI.out.below hHeld) HI1.out (by unfold maxLen; omega) (by omega) hHeld.size ?_
  intro v5 w5 hown5 hg5 hat5
  clear hat5
  refine hK.out _ _ (hHeld.grown hg5 hHeld.size (fun g hg => by simp [Value.ownBlock] at hg; omega)) (fun hHeld1 => ?_)
  clear hK K G0'
  have X7' := hide (blk_grow X7.out hg5 (by simp [Value.ownBlock]; omega)); clear X7; have X7 := X7'; clear X7'
  have HO5 := hide hown5
  clear hHeld hown5 hg5 X0
  (try clear N0)
  (try clear N7)
  have hHeld := hHeld1
  clear hHeld1 V
  obtain ⟨V, rfl⟩ : ∃ V, V = w5 := ⟨_, rfl⟩
  refine wpAnyT_ready (rs := [8]) (by kernel_rfl) (by simp) (by rfl) (AllT.cons rfl (fun K hK => ?_) AllT.nil)
  refine step_append_any _ rfl (.tmp 41) (.tmp 45) 43 rfl W4.heap.size 89 i0 _ 5 56 Try.underlying43 hi0 hz0 hz1 hz2 rfl (by decide) v5 (0 + ni) ([] ++ itF ps) rfl HO5.out _ (some ⟨g7, 0, none⟩) 1 1 [.int .i64 t, .int .i64 vl, .int .i64 net, .int .i64 seq, .slice A1 dn cap1] rfl (reads_blk5 X7.out) (by simp [Value.oneCell']) (by unfold maxLen; omega) (by omega) hHeld.size ?_
  intro v6 w6 hown6 hg6 hat6
  clear hat6
  obtain ⟨A6, cap6, hv6⟩ := own_slice hown6
  subst hv6
  refine hK.out _ _ (hHeld.grown hg6 hHeld.size (fun g hg => (HO5.out.lt g hg).1)) (fun hB6 => ?_)
  (try clear N0)
  (try clear N7)
  clear hK K hHeld hg6 HO5 X7 V
  obtain ⟨r0, r1, r2, r3, r4⟩ := four_of (keep HX4.out hB6)
  have r5 := frozen_of_row w6 w.heap.size 3 _ _ (keep HX4.out hB6)
  refine wpAnyT_done (by kernel_rfl) ?_
  have ee : 0 + ni + 1 = ni + 1 := by omega
  rw [ee] at hown6
  simp only [List.nil_append] at hown6
  (try simp only [Act.put, List.setIfInBounds_toArray, List.set_cons_zero, List.set_cons_succ])
  (try simp only [ee])
  clear ee
  have HO6 := hide hown6
  have HB6 := hide hB6
  clear hown6 hB6
  simp only [List.drop_succ_cons, List.drop_zero, List.toList_toArray]
  obtain ⟨z0, z1, z2, z3, zl⟩ := four_of (keep HZ3.out HB6.out)
  have e0 := frozen_of_row w6 (w.heap.size + 1 + 1) 0 _ _ (keep HZ3.out HB6.out)
  have e1 := frozen_of_row w6 (w.heap.size + 1 + 1) 1 _ _ (keep HZ3.out HB6.out)
  have e2 := frozen_of_row w6 (w.heap.size + 1 + 1) 2 _ _ (keep HZ3.out HB6.out)
  have e3 := frozen_of_row w6 (w.heap.size + 1 + 1) 3 _ _ (keep HZ3.out HB6.out)
  go_wp2_with fail
  clear r0 r1 r2 r3 r4 r5 z0 z1 z2 z3 zl e0 e1 e2 e3
  have KX : Hid ((w6.setCell ⟨w.heap.size, 3, none⟩ (.slice A6 (ni + 1) cap6)).heap[w.heap.size]? = some (.cells #[.slice bA nb bc, .int .i64 t, .slice lA nl lc, .slice A6 (ni + 1) cap6] 45 (0, 0))) := set_blk (keep HX4.out HB6.out)
  have KZ := hide (set_far (x := w.heap.size) (j := 3) (u := .slice A6 (ni + 1) cap6) (keep HZ3.out HB6.out) (by omega))
  have KB := hide ((HB3.out.trans (HB6.out.mono HB3.out.size)).setCell (p := ⟨w.heap.size, 3, none⟩) (Nat.le_refl _) (.slice A6 (ni + 1) cap6))
  have KO := hide (own_set HO6.out (p := ⟨w.heap.size, 3, none⟩) (by simp; omega) (.slice A6 (ni + 1) cap6))
  have KD := hide (own_set (own_below HO3.out HB6.out) (p := ⟨w.heap.size, 3, none⟩) (by simp; omega) (.slice A6 (ni + 1) cap6))
  generalize w6.setCell ⟨w.heap.size, 3, none⟩ (.slice A6 (ni + 1) cap6) = W7 at *
  obtain ⟨z0, z1, z2, z3, zl⟩ := four_of KZ.out
  have hw2 := HB3.out.size
  refine bodyPost_ret (v := .tuple #[.agg #[.slice bA nb bc, .int .i64 t, .slice lA nl lc, .slice A6 (ni + 1) cap6], .int .i64 0]) (by simp [results, Try.results35, go_sem, z0, z1, z2, z3, zl]) rfl (HR.out _ A1 A6 cap1 cap6 w2.heap.size W4.heap.size ?_ (by omega) hw2 ?_ ?_)
  · exact (((KB.out.setCell (p := ⟨w.heap.size + 1 + 1, 0, none⟩) (by simp; omega) _).setCell (p := ⟨w.heap.size + 1 + 1, 1, none⟩) (by simp; omega) _).setCell (p := ⟨w.heap.size + 1 + 1, 2, none⟩) (by simp; omega) _).setCell (p := ⟨w.heap.size + 1 + 1, 3, none⟩) (by simp; omega) _
  · exact own_set (own_set (own_set (own_set KD.out (p := ⟨w.heap.size + 1 + 1, 0, none⟩) (by simp; omega) _) (p := ⟨w.heap.size + 1 + 1, 1, none⟩) (by simp; omega) _) (p := ⟨w.heap.size + 1 + 1, 2, none⟩) (by simp; omega) _) (p := ⟨w.heap.size + 1 + 1, 3, none⟩) (by simp; omega) _
  · exact own_set (own_set (own_set (own_set KO.out (p := ⟨w.heap.size + 1 + 1, 0, none⟩) (by simp; omega) _) (p := ⟨w.heap.size + 1 + 1, 1, none⟩) (by simp; omega) _) (p := ⟨w.heap.size + 1 + 1, 2, none⟩) (by simp; omega) _) (p := ⟨w.heap.size + 1 + 1, 3, none⟩) (by simp; omega) _
end Go.Proofs.Ythahnliddoijoaa
