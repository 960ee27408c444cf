/-
  ShaperTells: one operation: Offer.
-/
import Derived.Test.YthahnliddoijoaaStq
namespace Go.Proofs.Ythahnliddoijoaa
open Go.RowKit
theorem offer_len {R : RS} {t vl net seq : Int} {bs : List Int} : (R.offer t vl net seq bs).1.items.length ≤ R.items.length + 1 := by
  unfold RS.offer
  split
  · exact Nat.le_succ _
  · split
    · exact Nat.le_succ _
    · show (R.items ++ [_]).length ≤ _
      rw [List.length_append]; exact Nat.le_refl _
theorem offer_sub {R : RS} {t vl net seq : Int} {bs : List Int} : ∀ x ∈ (R.offer t vl net seq bs).1.items, x ∈ R.items ∨ x = ⟨t, vl, net, seq, bs⟩ := by
  unfold RS.offer
  split
  · exact fun _ h => .inl h
  · split
    · exact fun _ h => .inl h
    · intro x h
      have h : x ∈ R.items ++ [_] := h
      rcases List.mem_append.1 h with h | h
      · exact .inl h
      · exact .inr (List.mem_singleton.1 h)
theorem LentB.kept {w w' : World} {B g n c : Nat} {bs : List Int} {G : Nat → Prop} (h : LentB w B g n c bs) (hk : Kept G w w') (hg : ¬ G g) : LentB w' B g n c bs := by
  obtain ⟨h1, h2⟩ := h
  refine ⟨h1, ?_⟩
  rcases h2 with ⟨hv, h0⟩ | ⟨g', cap, cur, hv, hb, hh, r⟩
  · omega
  · injection hv with e1 e2 e3
    injection e1 with e1
    injection e1 with e1
    subst e1
    exact .inr ⟨g, cap, cur, by rw [e3], hb, (hk.block g (blk_in hh) hg).trans hh, r⟩
theorem LentB.lt {w : World} {B g n c : Nat} {bs : List Int} (h : LentB w B g n c bs) : B ≤ g ∧ g < w.heap.size := by
  obtain ⟨g', c', hv, hb, hg, -, -⟩ := slice_of_own h (by omega)
  injection hv with e1 e2 e3
  injection e1 with e1
  injection e1 with e1
  subst e1
  exact ⟨hb, hg⟩
theorem bts_at {w w' : World} {g : Nat} {bs : List Int} {F : Nat → Prop} (h : w.heap[g]? = some (.cells (u8s bs).toArray 5 (0, 0))) (hF : ¬ F g) : Bts w (some ⟨g, 0, none⟩) bs.length bs F := by
  obtain ⟨h1, h2⟩ := bts_blk h
  refine ⟨h1, fun hn => ?_⟩
  obtain ⟨b, off, e, _, r⟩ := h2 hn
  injection e with e
  injection e with e1 e2
  subst e1
  exact ⟨g, off, by rw [e2], hF, r⟩
/-- The blocks that the reference's data avoid: the shaper's, the variable's, and those of L. -/
def FL (P : Nat → Prop) (rb n : Nat) (L : List Nat) (k : Nat) : Prop := (P k ∨ k = rb) ∨ (n ≤ k ∧ k ∈ L)
theorem FL.cons {P : Nat → Prop} {rb n x N : Nat} {L : List Nat} (hx : N ≤ x) : ∀ k, FL P rb n (x :: L) k → FL P rb n L k ∨ N ≤ k := by
  intro k hk
  rcases hk with hk | ⟨h1, h2⟩
  · exact .inl (.inl hk)
  · rcases List.mem_cons.1 h2 with rfl | h2
    · exact .inr hx
    · exact .inl (.inr ⟨h1, h2⟩)
/-- The row behind the operation. -/
theorem St.off {w W W' : World} {a rb B : Nat} {S S' : AS} {R R' : RS} {P P' F G : Nat → Prop} {bA lA iA lA' iA' : Option Addr} {bc lc ic lc' ic' : Nat} {ps ps' : List (It × Value)} (h : St w a rb B S R P bA lA iA bc lc ic ps)
    (hv : W.heap[rb]? = some (.cells #[.slice bA R'.bags.length bc, .int .i64 R'.clock, .slice lA' R'.left.length lc', .slice iA' R'.items.length ic'] 45 (0, 0)))
    (hr : RAt W R' bA lA' iA' ps' F) (hc : R'.items.length ≤ ic') (hk : Kept G W W') (hG : ∀ k, G k → F k) (hGr : ¬ G rb) (hs : SAt W' a S' P') (hP : ∀ k, P' k → (P k ∨ W.heap.size ≤ k)) (hF : ∀ k, P k ∨ k = rb → F k) (hw : w.heap.size ≤ W.heap.size)
    (hsim : Sim S' R') (hsm : ∀ x ∈ R'.items, x.bytes.length ≤ 1000) : St W' a rb B S' R' P' bA lA' iA' bc lc' ic' ps' :=
  have hrb : rb < W.heap.size := Nat.lt_of_lt_of_le h.rin hw
  ⟨hs, (hk.block rb (blk_in hv) hGr).trans hv, hr.swap hk hG (fun k hf => by
      rcases hf with hf | hf
      · exact (hP k hf).imp (fun h => hF k (.inl h)) id
      · exact .inl (hF k (.inr hf))), hc, hsim, fun hp => by rcases hP _ hp with h1 | h1; exact h.rp h1; omega,
    fun k hk => by rcases hP k hk with h1 | h1; exact h.low k h1; have h2 := h.rlow; have h3 := h.rin; omega, h.rlow, sat_inn hs, hsm⟩
attribute [local go_sem] Later.cell
set_option maxRecDepth 100000 in
set_option maxHeartbeats 4000000 in
theorem step_offer0 (a rb B m : Nat) (w : World) (h : Hid (StE w a rb B m)) (hmb : m ≤ 900) (t vl tag : Int) :
    Calls Try.prog 18 #[.pointer (some ⟨a, 0, none⟩), .pointer (some ⟨rb, 0, none⟩), .int .i64 0, .int .i64 t, .int .i64 vl, .int .u8 tag] w fun e w' => StepR w w' a rb B (m + 1) e := by
  obtain ⟨S, R, P, bA, lA, iA, bc, lc, ic, ps, hs, hm⟩ := h.out
  have HS := hide hs
  have hrin := HS.out.rin
  have HOF := hide (offer_len (R := R) (t := t) (vl := vl) (net := 0) (seq := 0) (bs := [tag]))
  have HML := hide (show (R.offer t vl 0 0 [tag]).1.items.length ≤ m + 1 by have := HOF.out; omega)
  have HSIM := hide (hs.sim.offer t vl 0 0 [tag]).2
  have HSML := hide (fun x (hx : x ∈ (R.offer t vl 0 0 [tag]).1.items) => show x.bytes.length ≤ 1000 from (offer_sub x hx).elim (hs.sml x) (fun e => by rw [e]; exact (by decide : (1 : Nat) ≤ 1000)))
  have HPI := hide hs.pin
  have HRO := hide (fun W L g (hb : Below w.heap.size w W) (h1 : ∀ k ∈ L, k < W.heap.size) (h4 : W.heap[g]? = some (.cells (u8s [tag]).toArray 5 (0, 0))) (hg : w.heap.size ≤ g) (h3 : g ∉ L) =>
    roffer_any R bA lA iA bc lc ic ps (FL P rb w.heap.size L) t vl 0 0 (some ⟨g, 0, none⟩) 1 1 [tag] W (hide (hs.at_.swap (F' := FL P rb w.heap.size L) (G := fun _ => False) (.of_below hb) (fun k e => e.elim) (fun k hk => hk.imp id And.left))) (hide hs.cap)
      (hide (fun k hk => Or.elim hk (fun hk => Nat.lt_of_lt_of_le (Or.elim hk (hs.pin k) (fun e => by rw [e]; exact hrin)) hb.size) (fun hk => h1 k hk.2)))
      (hide (bts_at (w' := W) h4 (fun hk => Or.elim hk (fun hk => Or.elim hk (fun hp => by have := hs.pin g hp; omega) (fun e => by omega)) (fun hk => h3 hk.2)))) (by decide) (by omega))
  rw [(hs.sim.offer t vl 0 0 [tag]).1] at HRO
  have HV := hide hs.var
  clear hs h hm HOF
  unfold RSV frameV at HRO
  generalize (R.offer t vl 0 0 [tag]).1 = R' at *
  generalize R.bags.length = nb at HRO HV
  generalize R.left.length = nl at HRO HV
  generalize R.clock = ck at HRO HV
  generalize R.items.length = ni at HRO HV
  go_enter Try.func18, Try.ntmps18
  go_wp2_with fail
  refine (frame_any vl tag w).mono ?_
  rintro e w1 ⟨g0, rfl, hg0, hgc, hb1⟩
  have HB1 := hide hb1
  have HGC := hide hgc
  have hz1 := hb1.size
  have hg01 := blk_in hgc
  clear hb1 hgc
  go_wp2_with fail
  have HX13 := hide (heap_alloc_new w1 (.cells #[.int .i64 vl, .int .i64 0, .int .i64 0, .slice (some ⟨g0, 0, none⟩) 1 1] 33))
  have hbX := (Below.refl w1.heap.size w1).alloc (Nat.le_refl _) (.cells #[.int .i64 vl, .int .i64 0, .int .i64 0, .slice (some ⟨g0, 0, none⟩) 1 1] 33)
  have HB2 := hide (HB1.out.trans (hbX.mono hz1))
  have HG2 := hide (keep HGC.out hbX)
  have hz2 : w1.heap.size < (w1.alloc (.cells #[.int .i64 vl, .int .i64 0, .int .i64 0, .slice (some ⟨g0, 0, none⟩) 1 1] 33)).heap.size := by simp
  clear hbX HB1 HGC
  generalize w1.alloc (.cells #[.int .i64 vl, .int .i64 0, .int .i64 0, .slice (some ⟨g0, 0, none⟩) 1 1] 33) = W1 at *
  generalize w1.heap.size = x13 at *
  refine (lentFrame_any vl 0 0 (some ⟨g0, 0, none⟩) 1 1 [tag] (fun _ => False) W1 (by decide) (hide (bts_at (w' := W1) HG2.out (fun h => h)))).mono ?_
  rintro e w2 ⟨g1, c1, rfl, hl1, hb2⟩
  unfold frameV
  have hg1 := LentB.lt hl1
  obtain ⟨hg1a, hg1b⟩ := hg1
  have HL1 := hide hl1
  have HB3 := hide (HB2.out.trans (hb2.mono (by have := HB2.out.size; exact this)))
  have HX3 := hide (keep HX13.out hb2)
  have HG3 := hide (keep HG2.out hb2)
  have hz3 := hb2.size
  clear hl1 hb2 HB2 HX13 HG2
  go_wp2_with fail
  have HX14 := hide (heap_alloc_new w2 (.cells #[.int .i64 vl, .int .i64 0, .int .i64 0, .slice (some ⟨g1, 0, none⟩) 1 c1] 33))
  have hbX := (Below.refl w2.heap.size w2).alloc (Nat.le_refl _) (.cells #[.int .i64 vl, .int .i64 0, .int .i64 0, .slice (some ⟨g1, 0, none⟩) 1 c1] 33)
  have HB4 := hide (HB3.out.trans (hbX.mono HB3.out.size))
  have HG4 := hide (keep HG3.out hbX)
  have HX4 := hide (keep HX3.out hbX)
  have HL4 := hide (HL1.out.kept (Kept.of_below (F := fun _ => False) hbX) (fun h => h))
  have hz4 : w2.heap.size < (w2.alloc (.cells #[.int .i64 vl, .int .i64 0, .int .i64 0, .slice (some ⟨g1, 0, none⟩) 1 c1] 33)).heap.size := by simp
  clear hbX HB3 HG3 HX3 HL1
  generalize w2.alloc (.cells #[.int .i64 vl, .int .i64 0, .int .i64 0, .slice (some ⟨g1, 0, none⟩) 1 c1] 33) = W2 at *
  generalize w2.heap.size = x14 at *
  have hwW : w.heap.size ≤ W2.heap.size := HB4.out.size
  have HV4 := hide (keep HV.out HB4.out)
  obtain ⟨x0, x1, x2, x3, xl⟩ := four_of HV4.out
  obtain ⟨y0, y1, y2, y3, yl⟩ := four_of HX4.out
  refine wp_region_tail (S := fun w' => Below W2.heap.size W2 w') 11 (by kernel_rfl) (by kernel_rfl) ((Below.refl _ _).drew) (fun hHeld => ?_)
  generalize W2.drew = V at *
  refine wpAnyT_take (i := 0) (oi := ⟨some 38, _, _, _, _, _⟩) (v := ?_) rfl (by kernel_rfl) (fun _ _ _ h => h) (Or.inl ⟨by rfl, ?_⟩) hHeld ?_
  rotate_left
  · intro v hS
    skip
    go_simp
    with_reducible rfl
  (try simp only [Act.put, List.setIfInBounds_toArray, List.set_cons_zero, List.set_cons_succ])
  refine wpAnyT_take (i := 1) (oi := ⟨some 39, _, _, _, _, _⟩) (v := ?_) rfl (by kernel_rfl) (fun _ _ _ h => h) (Or.inl ⟨by rfl, ?_⟩) hHeld ?_
  rotate_left
  · intro v hS
    skip
    go_simp
    with_reducible rfl
  (try simp only [Act.put, List.setIfInBounds_toArray, List.set_cons_zero, List.set_cons_succ])
  refine wpAnyT_take (i := 2) (oi := ⟨some 40, _, _, _, _, _⟩) (v := ?_) rfl (by kernel_rfl) (fun _ _ _ h => h) (Or.inl ⟨by rfl, ?_⟩) hHeld ?_
  rotate_left
  · intro v hS
    have c0 := cellB hS x0; have c1 := cellB hS x1; have c2 := cellB hS x2; have c3 := cellB hS x3
    go_simp
    with_reducible rfl
  (try simp only [Act.put, List.setIfInBounds_toArray, List.set_cons_zero, List.set_cons_succ])
  refine wpAnyT_take (i := 3) (oi := ⟨some 41, _, _, _, _, _⟩) (v := ?_) rfl (by kernel_rfl) (fun _ _ _ h => h) (Or.inl ⟨by rfl, ?_⟩) hHeld ?_
  rotate_left
  · intro v hS
    skip
    go_simp
    with_reducible rfl
  (try simp only [Act.put, List.setIfInBounds_toArray, List.set_cons_zero, List.set_cons_succ])
  refine wpAnyT_take (i := 4) (oi := ⟨some 42, _, _, _, _, _⟩) (v := ?_) rfl (by kernel_rfl) (fun _ _ _ h => h) (Or.inl ⟨by rfl, ?_⟩) hHeld ?_
  rotate_left
  · intro v hS
    have c0 := cellB hS y0; have c1 := cellB hS y1; have c2 := cellB hS y2; have c3 := cellB hS y3
    go_simp
    with_reducible rfl
  (try simp only [Act.put, List.setIfInBounds_toArray, List.set_cons_zero, List.set_cons_succ])
  clear x0 x1 x2 x3 xl y0 y1 y2 y3 yl
  refine wpAnyT_ready (rs := [5, 9]) (by kernel_rfl) (by simp) (by rfl) (AllT.cons rfl (fun K hK => ?_) (AllT.cons rfl (fun K hK => ?_) AllT.nil))
  go_simp
  refine (HRO.out V [g1] g0 (HB4.out.trans (hHeld.mono hwW)) (by have hz := hHeld.size; simp; omega) (keep HG4.out hHeld) hg0 (by simp; omega)).mono ?_
  rintro e V2 ⟨iA', ic', ps', rfl, hr, hb5, hcap⟩
  unfold RSV
  go_wp2_with fail
  refine hK.out _ _ (hHeld.trans (hb5.mono hHeld.size)) (fun hHeld1 => ?_)
  clear hK K
  have HR := hide hr
  have HCAP := hide hcap
  skip
  clear hHeld hr hcap hb5
  have hHeld := hHeld1
  clear hHeld1 V
  obtain ⟨V, rfl⟩ : ∃ V, V = V2 := ⟨_, rfl⟩
  refine wpAnyT_take (i := 6) (oi := ⟨some 37, _, _, _, _, _⟩) (v := ?_) rfl (by kernel_rfl) (fun _ _ _ h => h) (Or.inl ⟨by rfl, ?_⟩) hHeld ?_
  rotate_left
  · intro v hS
    skip
    go_simp
    with_reducible rfl
  (try simp only [Act.put, List.setIfInBounds_toArray, List.set_cons_zero, List.set_cons_succ])
  refine wpAnyT_take (i := 7) (oi := ⟨some 44, _, _, _, _, _⟩) (v := ?_) rfl (by kernel_rfl) (fun _ _ _ h => h) (Or.inl ⟨by rfl, ?_⟩) hHeld ?_
  rotate_left
  · intro v hS
    skip
    go_simp
    with_reducible rfl
  (try simp only [Act.put, List.setIfInBounds_toArray, List.set_cons_zero, List.set_cons_succ])
  refine wpAnyT_take (i := 8) (oi := ⟨some 45, _, _, _, _, _⟩) (v := ?_) rfl (by kernel_rfl) (fun _ _ _ h => h) (Or.inl ⟨by rfl, ?_⟩) hHeld ?_
  rotate_left
  · intro v hS
    skip
    go_simp
    with_reducible rfl
  (try simp only [Act.put, List.setIfInBounds_toArray, List.set_cons_zero, List.set_cons_succ])
  refine wpAnyT_ready (rs := [9]) (by kernel_rfl) (by simp) (by rfl) (AllT.cons rfl (fun K hK => ?_) AllT.nil)
  go_simp
  refine hK.out _ _ (hHeld.alloc hHeld.size _) (fun hHeld1 => ?_)
  clear hK K
  have X15 := hide (heap_alloc_new V (.cells #[.slice none 0 0, .int .i64 0, .slice none 0 0, .slice none 0 0] 45))
  have G15 := hide hHeld.size
  have hr := HR.out.swap (F' := FL P rb w.heap.size [V.heap.size, g1]) (G := fun _ => False) (.of_below ((Below.refl _ _).alloc (Nat.le_refl _) (.cells #[.slice none 0 0, .int .i64 0, .slice none 0 0, .slice none 0 0] 45))) (fun k e => e.elim) (FL.cons (Nat.le_refl _)); clear HR; have HR := hide hr; clear hr
  clear hHeld
  have hHeld := hHeld1
  clear hHeld1
  generalize V.heap.size = g15 at *
  generalize V.alloc (.cells #[.slice none 0 0, .int .i64 0, .slice none 0 0, .slice none 0 0] 45) = V' at *
  clear V
  obtain ⟨V, rfl⟩ : ∃ V, V = V' := ⟨_, rfl⟩
  have g15g := G15.out
  have n15 : ¬ g15 = rb := by omega
  have n15' : ¬ rb = g15 := by omega
  have n14 : ¬ x14 = rb := by omega
  have n14' : ¬ rb = x14 := by omega
  have n145 : ¬ x14 = g15 := by omega
  have n145' : ¬ g15 = x14 := by omega
  obtain ⟨z0, z1, z2, z3, zl⟩ := four_of X15.out
  have q0 := frozen_of_row V g15 0 _ _ X15.out
  have q1 := frozen_of_row V g15 1 _ _ X15.out
  have q2 := frozen_of_row V g15 2 _ _ X15.out
  have q3 := frozen_of_row V g15 3 _ _ X15.out
  refine wpAnyT_ready (rs := [10]) (by kernel_rfl) (by simp) (by rfl) (AllT.cons rfl (fun K hK => ?_) AllT.nil)
  go_simp
  refine hK.out _ _ ((((hHeld.setCell (p := ⟨g15, 0, none⟩) g15g _).setCell (p := ⟨g15, 1, none⟩) g15g _).setCell (p := ⟨g15, 2, none⟩) g15g _).setCell (p := ⟨g15, 3, none⟩) g15g _) (fun hHeld1 => ?_)
  clear hK K
  have hr2 := HR.out.swap (F' := FL P rb w.heap.size [g15, g1]) (set_kept4 V g15 (.slice bA R'.bags.length bc) (.int .i64 R'.clock) (.slice lA R'.left.length lc) (.slice iA' R'.items.length ic')) (fun k e => .inr ⟨by omega, by rw [e]; exact List.mem_cons_self⟩) (fun k hk => .inl hk)
  have hx2 : ((((V.setCell ⟨g15, 0, none⟩ (.slice bA R'.bags.length bc)).setCell ⟨g15, 1, none⟩ (.int .i64 R'.clock)).setCell ⟨g15, 2, none⟩ (.slice lA R'.left.length lc)).setCell ⟨g15, 3, none⟩ (.slice iA' R'.items.length ic')).heap[g15]? = some (.cells #[.slice bA R'.bags.length bc, .int .i64 R'.clock, .slice lA R'.left.length lc, .slice iA' R'.items.length ic'] 45 (0, 0)) := set_row4 X15.out
  have HR2 := hide hr2
  have HX2 := hide hx2
  have HH2 := hide hHeld1
  clear hr2 hx2 hHeld1 hHeld HR X15 z0 z1 z2 z3 zl q0 q1 q2 q3
  generalize (((V.setCell ⟨g15, 0, none⟩ (.slice bA R'.bags.length bc)).setCell ⟨g15, 1, none⟩ (.int .i64 R'.clock)).setCell ⟨g15, 2, none⟩ (.slice lA R'.left.length lc)).setCell ⟨g15, 3, none⟩ (.slice iA' R'.items.length ic') = V2 at *
  clear V
  refine wpAnyT_done (by kernel_rfl) ?_
  (try simp only [Act.put, List.setIfInBounds_toArray, List.set_cons_zero, List.set_cons_succ])
  simp only [List.drop_succ_cons, List.drop_zero, List.toList_toArray]
  have HB2' := hide (HB4.out.trans (HH2.out.mono hwW))
  have HV2 := hide (keep HV4.out HH2.out)
  have HX14' := hide (keep HX14.out HH2.out)
  have HX13' := hide (keep HX4.out HH2.out)
  have HL2 := hide (HL4.out.kept (Kept.of_below (F := fun _ => False) HH2.out) (fun h => h))
  have HG2' := hide (keep HG4.out HH2.out)
  obtain ⟨z0, z1, z2, z3, zl⟩ := four_of HX2.out
  obtain ⟨x0, x1, x2, x3, xl⟩ := four_of HV2.out
  obtain ⟨y0, y1, y2, y3, yl⟩ := four_of HX14'.out
  have q0 := frozen_of_row V2 rb 0 _ _ HV2.out
  have q1 := frozen_of_row V2 rb 1 _ _ HV2.out
  have q2 := frozen_of_row V2 rb 2 _ _ HV2.out
  have q3 := frozen_of_row V2 rb 3 _ _ HV2.out
  go_wp2_with fail
  have hk3 := set_kept4 V2 rb (.slice bA R'.bags.length bc) (.int .i64 R'.clock) (.slice lA R'.left.length lc) (.slice iA' R'.items.length ic')
  have hx13l := blk_in HX13'.out
  have hx14l := blk_in HX14'.out
  have hrlow := HS.out.rlow
  have HV5 := hide (show ((((V2.setCell ⟨rb, 0, none⟩ (.slice bA R'.bags.length bc)).setCell ⟨rb, 1, none⟩ (.int .i64 R'.clock)).setCell ⟨rb, 2, none⟩ (.slice lA R'.left.length lc)).setCell ⟨rb, 3, none⟩ (.slice iA' R'.items.length ic')).heap[rb]? = some (.cells #[.slice bA R'.bags.length bc, .int .i64 R'.clock, .slice lA R'.left.length lc, .slice iA' R'.items.length ic'] 45 (0, 0)) from set_row4 HV2.out)
  have HR5 := hide (HR2.out.swap (F' := FL P rb w.heap.size [g15, g1]) hk3 (fun k e => .inl (.inr e)) (fun k hk => .inl hk))
  have HS5 := hide ((HS.out.sh.below HB2'.out).frame hk3 (fun k hp e => HS.out.rp (e ▸ hp)))
  have HX145 := hide ((hk3.block x14 hx14l (by omega)).trans HX14'.out)
  have HX135 := hide ((hk3.block x13 hx13l (by omega)).trans HX13'.out)
  have HL5 := hide (HL2.out.kept hk3 (by omega))
  have HG5 := hide ((hk3.block g0 (blk_in HG2'.out) (by omega)).trans HG2'.out)
  have hBl : B ≤ w.heap.size := by omega
  have HB5 := hide (((((HB2'.out.mono hBl).setCell (p := ⟨rb, 0, none⟩) hrlow (.slice bA R'.bags.length bc)).setCell (p := ⟨rb, 1, none⟩) hrlow (.int .i64 R'.clock)).setCell (p := ⟨rb, 2, none⟩) hrlow (.slice lA R'.left.length lc)).setCell (p := ⟨rb, 3, none⟩) hrlow (.slice iA' R'.items.length ic'))
  have hz5 : w.heap.size ≤ ((((V2.setCell ⟨rb, 0, none⟩ (.slice bA R'.bags.length bc)).setCell ⟨rb, 1, none⟩ (.int .i64 R'.clock)).setCell ⟨rb, 2, none⟩ (.slice lA R'.left.length lc)).setCell ⟨rb, 3, none⟩ (.slice iA' R'.items.length ic')).heap.size := Nat.le_trans HB2'.out.size hk3.size
  clear hk3 hx13l hx14l HV2 HR2 HX14' HX13' HL2 HG2' HB2' HX2 HH2 HX14 HX4 HL4 HG4 HB4 HV4 G15 x0 x1 x2 x3 xl y0 y1 y2 y3 yl z0 z1 z2 z3 zl q0 q1 q2 q3 n15 n15' n145 n145'
  generalize (((V2.setCell ⟨rb, 0, none⟩ (.slice bA R'.bags.length bc)).setCell ⟨rb, 1, none⟩ (.int .i64 R'.clock)).setCell ⟨rb, 2, none⟩ (.slice lA R'.left.length lc)).setCell ⟨rb, 3, none⟩ (.slice iA' R'.items.length ic') = V3 at *
  have hw1s : w.heap.size ≤ W1.heap.size := by omega
  refine (offer_any a S P t vl 0 0 (some ⟨g1, 0, none⟩) 1 c1 [tag] V3 (hide HS5.out) (by omega) (hide (HL5.out.bts rfl (fun k hp => Nat.lt_of_lt_of_le (HPI.out k hp) hw1s)).rb)).mono ?_
  rintro e w6 ⟨rfl, hoff⟩
  have HOK := hide hoff.kept
  obtain ⟨P', hsp, hpp⟩ := hoff.at_
  have HSP := hide hsp
  have HPP := hide (fun k (hk : P' k) => (hpp k hk).imp id And.left)
  clear hoff hsp hpp
  have np14 : ¬ P x14 := fun hp => by have := HPI.out _ hp; omega
  have np13 : ¬ P x13 := fun hp => by have := HPI.out _ hp; omega
  have npg0 : ¬ P g0 := fun hp => by have := HPI.out _ hp; omega
  have npg1 : ¬ P g1 := fun hp => by have := HPI.out _ hp; omega
  have HX146 := hide ((HOK.out.block x14 (blk_in HX145.out) np14).trans HX145.out)
  have HX136 := hide ((HOK.out.block x13 (blk_in HX135.out) np13).trans HX135.out)
  have HL6 := hide (HL5.out.kept HOK.out npg1)
  have HG6 := hide ((HOK.out.block g0 (blk_in HG5.out) npg0).trans HG5.out)
  have hz6 := HOK.out.size
  have hg15' := (LentB.lt HL5.out).2
  clear np14 np13 npg0 HX145 HX135 HG5 HS5
  obtain ⟨y0, y1, y2, y3, yl⟩ := four_of HX146.out
  obtain ⟨x0, x1, x2, x3, xl⟩ := four_of HX136.out
  have HKF := hide (keptFrame_any vl 0 0 (some ⟨g0, 0, none⟩) W1.heap.size 1 1 g1 c1 [tag] (fun _ => False) w6 (by decide) (hide (bts_at (w' := w6) HG6.out (fun h => h))) HL6)
  unfold frameV at HKF
  go_wp2_with fail
  refine HKF.out.mono ?_
  rintro e w7 ⟨rfl, hb7⟩
  have HB7 := hide hb7
  have HX147 := hide (keep HX146.out hb7)
  have HL7 := hide (HL6.out.kept (Kept.of_below (F := fun _ => False) hb7) (fun h => h))
  clear hb7 y0 y1 y2 y3 yl x0 x1 x2 x3 xl HKF
  obtain ⟨y0, y1, y2, y3, yl⟩ := four_of HX147.out
  have HOV := hide (overFrame_lent vl 0 0 W1.heap.size 1 g1 c1 [tag] w7 (by decide) HL7)
  unfold frameV at HOV
  go_wp2_with fail
  refine HOV.out.mono ?_
  rintro e w8 ⟨rfl, hk8⟩
  have hk : Kept (fun k => P k ∨ k = g1) V3 w8 := ((HOK.out.mono (fun _ h => .inl h)).trans (.of_below HB7.out)).trans (hk8.mono (fun _ h => .inr h))
  have hng : ¬ P' g1 := fun hp => by rcases HPP.out _ hp with h1 | h1; exact npg1 h1; omega
  have hs8 := (HSP.out.below HB7.out).frame hk8 (fun k hp e => hng (e ▸ hp))
  have hst := St.off HS.out HV5.out HR5.out HCAP.out hk (fun k hk => Or.elim hk (fun h => .inl (.inl h)) (fun e => .inr ⟨by omega, by rw [e]; simp⟩)) (by rintro (h | h); exact HS.out.rp h; omega) hs8 HPP.out (fun k hk => .inl hk) hz5 HSIM.out HSML.out
  have hbb := HB5.out.trans (hk.below (B := B) (by omega) (fun i hi hp => Or.elim hp (fun hp => by have := HS.out.low i hp; omega) (fun e => by omega)))
  have HST := hide hst
  have HBB := hide hbb
  have HMM := HML
  clear HS HV5 HR5 HCAP HL5 HB5 HOK HSP HPP HX146 HX136 HL6 HG6 HB7 HX147 HL7 HOV hk8 hk hng hs8 hst hbb y0 y1 y2 y3 yl npg1 HSML HPI HRO HV HML
  have HS := HST
  clear HST
  -- HS : Hid (St w8 ..), HMM : Hid (R.items.length ≤ _), HBB : Hid (Below B w w8)
  have hBl : B ≤ w8.heap.size := by have h1 := HS.out.rlow; have h2 := HS.out.rin; omega
  have HFIN : Hid (∀ w', Below w8.heap.size w8 w' → StepR w w' a rb B (m + 1) (.returned (.bool true))) := fun w' hb => ⟨rfl, StE.of HS.out HMM.out hb, HBB.out.trans (hb.mono hBl)⟩
  have HW1 := hide (fun W (hb : Below w8.heap.size w8 W) => when_any a _ _ W (hide (HS.out.sh.below hb)))
  have HW2 := hide (fun W (hb : Below w8.heap.size w8 W) => when_r _ _ _ _ bc lc ic' _ _ W (hide (HS.out.at_.below hb)))
  have HW3 := hide (fun W (hb : Below w8.heap.size w8 W) => waiting_any a _ _ vl W (hide (HS.out.sh.below hb)))
  have HW4 := hide (fun W (hb : Below w8.heap.size w8 W) => rwaiting_any _ _ _ _ bc lc ic' _ _ vl W (hide (HS.out.at_.below hb)))
  rw [HS.out.sim.when] at HW2
  rw [HS.out.sim.waiting] at HW4
  obtain ⟨tw, bw, HWV⟩ := whenV_pair (AS.when (S.offer t vl 0 0 [tag]).1)
  rw [HWV] at HW1 HW2
  unfold RSV at HW2 HW4
  generalize AS.waiting (S.offer t vl 0 0 [tag]).1 vl = wt at *
  have HV := hide HS.out.var
  have hrin := HS.out.rin
  clear HWV HS HMM HBB
  generalize (RS.bags R').length = nb at *
  generalize (RS.left R').length = nl at *
  generalize RS.clock R' = ck at *
  generalize (RS.items R').length = ni at *
  obtain ⟨x0, x1, x2, x3, xl⟩ := four_of HV.out
  go_wp2_with fail
  refine (HW1.out _ (Below.refl _ _)).mono ?_
  rintro e w' ⟨rfl, d, rfl⟩
  go_wp2_with fail
  refine (HW2.out _ (below_drewN (Below.refl _ _) d)).mono ?_
  rintro e wz ⟨rfl, hbz⟩
  have HBZ := hide ((below_drewN (Below.refl w8.heap.size w8) d).trans hbz)
  have hzl := HBZ.out.size
  have HVZ := hide (keep HV.out HBZ.out)
  clear hbz x0 x1 x2 x3 xl
  obtain ⟨x0, x1, x2, x3, xl⟩ := four_of HVZ.out
  have hrz : rb < wz.heap.size := by omega
  have HW3' := hide (fun s : Later wz => HW3.out s.w (HBZ.out.trans (s.below.mono hzl)))
  have HW4' := hide (fun s : Later wz => HW4.out s.w (HBZ.out.trans (s.below.mono hzl)))
  clear HW1 HW2 HW3 HW4
  go_wp2_with fail
  refine wp_region_later (W := wz) (by kernel_rfl) (by kernel_rfl) ?_
  iterate 20 (go_big_quiet_step ((first
    | (go_at_call 12; exact Later.call_same ((HW3'.out _).mono fun e w' h => ⟨h.1, h.2⟩))
    | (go_at_call 40; exact Later.call (HW4'.out _)))))
  refine wpQuiet_nil ?_
  rintro _ ⟨s, rfl⟩
  go_wp2_with fail
  go_ret
  exact HFIN.out _ (HBZ.out.trans (s.below.mono hzl))
  go_simp
  refine hK.out _ _ (hHeld.alloc hHeld.size _) (fun hHeld1 => ?_)
  clear hK K
  have X15 := hide (heap_alloc_new V (.cells #[.slice none 0 0, .int .i64 0, .slice none 0 0, .slice none 0 0] 45))
  have G15 := hide hHeld.size
  skip
  clear hHeld
  have hHeld := hHeld1
  clear hHeld1
  generalize V.heap.size = g15 at *
  generalize V.alloc (.cells #[.slice none 0 0, .int .i64 0, .slice none 0 0, .slice none 0 0] 45) = V' at *
  clear V
  obtain ⟨V, rfl⟩ : ∃ V, V = V' := ⟨_, rfl⟩
  refine wpAnyT_ready (rs := [5]) (by kernel_rfl) (by simp) (by rfl) (AllT.cons rfl (fun K hK => ?_) AllT.nil)
  have g15l := blk_in X15.out
  have g15g := G15.out
  go_simp
  refine (HRO.out V [g15, g1] g0 (HB4.out.trans (hHeld.mono hwW)) (by have hz := hHeld.size; simp; omega) (keep HG4.out hHeld) hg0 (by simp; omega)).mono ?_
  rintro e V2 ⟨iA', ic', ps', rfl, hr, hb5, hcap⟩
  unfold RSV
  go_wp2_with fail
  refine hK.out _ _ (hHeld.trans (hb5.mono hHeld.size)) (fun hHeld1 => ?_)
  clear hK K
  have HR := hide hr
  have HCAP := hide hcap
  have hx := keep X15.out hb5; clear X15 g15l g15g; have X15 := hide hx; clear hx
  clear hHeld hr hcap hb5
  have hHeld := hHeld1
  clear hHeld1 V
  obtain ⟨V, rfl⟩ : ∃ V, V = V2 := ⟨_, rfl⟩
  refine wpAnyT_take (i := 6) (oi := ⟨some 37, _, _, _, _, _⟩) (v := ?_) rfl (by kernel_rfl) (fun _ _ _ h => h) (Or.inl ⟨by rfl, ?_⟩) hHeld ?_
  rotate_left
  · intro v hS
    skip
    go_simp
    with_reducible rfl
  (try simp only [Act.put, List.setIfInBounds_toArray, List.set_cons_zero, List.set_cons_succ])
  refine wpAnyT_take (i := 7) (oi := ⟨some 44, _, _, _, _, _⟩) (v := ?_) rfl (by kernel_rfl) (fun _ _ _ h => h) (Or.inl ⟨by rfl, ?_⟩) hHeld ?_
  rotate_left
  · intro v hS
    skip
    go_simp
    with_reducible rfl
  (try simp only [Act.put, List.setIfInBounds_toArray, List.set_cons_zero, List.set_cons_succ])
  refine wpAnyT_take (i := 8) (oi := ⟨some 45, _, _, _, _, _⟩) (v := ?_) rfl (by kernel_rfl) (fun _ _ _ h => h) (Or.inl ⟨by rfl, ?_⟩) hHeld ?_
  rotate_left
  · intro v hS
    skip
    go_simp
    with_reducible rfl
  (try simp only [Act.put, List.setIfInBounds_toArray, List.set_cons_zero, List.set_cons_succ])
  have g15g := G15.out
  have n15 : ¬ g15 = rb := by omega
  have n15' : ¬ rb = g15 := by omega
  have n14 : ¬ x14 = rb := by omega
  have n14' : ¬ rb = x14 := by omega
  have n145 : ¬ x14 = g15 := by omega
  have n145' : ¬ g15 = x14 := by omega
  obtain ⟨z0, z1, z2, z3, zl⟩ := four_of X15.out
  have q0 := frozen_of_row V g15 0 _ _ X15.out
  have q1 := frozen_of_row V g15 1 _ _ X15.out
  have q2 := frozen_of_row V g15 2 _ _ X15.out
  have q3 := frozen_of_row V g15 3 _ _ X15.out
  refine wpAnyT_ready (rs := [10]) (by kernel_rfl) (by simp) (by rfl) (AllT.cons rfl (fun K hK => ?_) AllT.nil)
  go_simp
  refine hK.out _ _ ((((hHeld.setCell (p := ⟨g15, 0, none⟩) g15g _).setCell (p := ⟨g15, 1, none⟩) g15g _).setCell (p := ⟨g15, 2, none⟩) g15g _).setCell (p := ⟨g15, 3, none⟩) g15g _) (fun hHeld1 => ?_)
  clear hK K
  have hr2 := HR.out.swap (F' := FL P rb w.heap.size [g15, g1]) (set_kept4 V g15 (.slice bA R'.bags.length bc) (.int .i64 R'.clock) (.slice lA R'.left.length lc) (.slice iA' R'.items.length ic')) (fun k e => .inr ⟨by omega, by rw [e]; exact List.mem_cons_self⟩) (fun k hk => .inl hk)
  have hx2 : ((((V.setCell ⟨g15, 0, none⟩ (.slice bA R'.bags.length bc)).setCell ⟨g15, 1, none⟩ (.int .i64 R'.clock)).setCell ⟨g15, 2, none⟩ (.slice lA R'.left.length lc)).setCell ⟨g15, 3, none⟩ (.slice iA' R'.items.length ic')).heap[g15]? = some (.cells #[.slice bA R'.bags.length bc, .int .i64 R'.clock, .slice lA R'.left.length lc, .slice iA' R'.items.length ic'] 45 (0, 0)) := set_row4 X15.out
  have HR2 := hide hr2
  have HX2 := hide hx2
  have HH2 := hide hHeld1
  clear hr2 hx2 hHeld1 hHeld HR X15 z0 z1 z2 z3 zl q0 q1 q2 q3
  generalize (((V.setCell ⟨g15, 0, none⟩ (.slice bA R'.bags.length bc)).setCell ⟨g15, 1, none⟩ (.int .i64 R'.clock)).setCell ⟨g15, 2, none⟩ (.slice lA R'.left.length lc)).setCell ⟨g15, 3, none⟩ (.slice iA' R'.items.length ic') = V2 at *
  clear V
  refine wpAnyT_done (by kernel_rfl) ?_
  (try simp only [Act.put, List.setIfInBounds_toArray, List.set_cons_zero, List.set_cons_succ])
  simp only [List.drop_succ_cons, List.drop_zero, List.toList_toArray]
  have HB2' := hide (HB4.out.trans (HH2.out.mono hwW))
  have HV2 := hide (keep HV4.out HH2.out)
  have HX14' := hide (keep HX14.out HH2.out)
  have HX13' := hide (keep HX4.out HH2.out)
  have HL2 := hide (HL4.out.kept (Kept.of_below (F := fun _ => False) HH2.out) (fun h => h))
  have HG2' := hide (keep HG4.out HH2.out)
  obtain ⟨z0, z1, z2, z3, zl⟩ := four_of HX2.out
  obtain ⟨x0, x1, x2, x3, xl⟩ := four_of HV2.out
  obtain ⟨y0, y1, y2, y3, yl⟩ := four_of HX14'.out
  have q0 := frozen_of_row V2 rb 0 _ _ HV2.out
  have q1 := frozen_of_row V2 rb 1 _ _ HV2.out
  have q2 := frozen_of_row V2 rb 2 _ _ HV2.out
  have q3 := frozen_of_row V2 rb 3 _ _ HV2.out
  go_wp2_with fail
  have hk3 := set_kept4 V2 rb (.slice bA R'.bags.length bc) (.int .i64 R'.clock) (.slice lA R'.left.length lc) (.slice iA' R'.items.length ic')
  have hx13l := blk_in HX13'.out
  have hx14l := blk_in HX14'.out
  have hrlow := HS.out.rlow
  have HV5 := hide (show ((((V2.setCell ⟨rb, 0, none⟩ (.slice bA R'.bags.length bc)).setCell ⟨rb, 1, none⟩ (.int .i64 R'.clock)).setCell ⟨rb, 2, none⟩ (.slice lA R'.left.length lc)).setCell ⟨rb, 3, none⟩ (.slice iA' R'.items.length ic')).heap[rb]? = some (.cells #[.slice bA R'.bags.length bc, .int .i64 R'.clock, .slice lA R'.left.length lc, .slice iA' R'.items.length ic'] 45 (0, 0)) from set_row4 HV2.out)
  have HR5 := hide (HR2.out.swap (F' := FL P rb w.heap.size [g15, g1]) hk3 (fun k e => .inl (.inr e)) (fun k hk => .inl hk))
  have HS5 := hide ((HS.out.sh.below HB2'.out).frame hk3 (fun k hp e => HS.out.rp (e ▸ hp)))
  have HX145 := hide ((hk3.block x14 hx14l (by omega)).trans HX14'.out)
  have HX135 := hide ((hk3.block x13 hx13l (by omega)).trans HX13'.out)
  have HL5 := hide (HL2.out.kept hk3 (by omega))
  have HG5 := hide ((hk3.block g0 (blk_in HG2'.out) (by omega)).trans HG2'.out)
  have hBl : B ≤ w.heap.size := by omega
  have HB5 := hide (((((HB2'.out.mono hBl).setCell (p := ⟨rb, 0, none⟩) hrlow (.slice bA R'.bags.length bc)).setCell (p := ⟨rb, 1, none⟩) hrlow (.int .i64 R'.clock)).setCell (p := ⟨rb, 2, none⟩) hrlow (.slice lA R'.left.length lc)).setCell (p := ⟨rb, 3, none⟩) hrlow (.slice iA' R'.items.length ic'))
  have hz5 : w.heap.size ≤ ((((V2.setCell ⟨rb, 0, none⟩ (.slice bA R'.bags.length bc)).setCell ⟨rb, 1, none⟩ (.int .i64 R'.clock)).setCell ⟨rb, 2, none⟩ (.slice lA R'.left.length lc)).setCell ⟨rb, 3, none⟩ (.slice iA' R'.items.length ic')).heap.size := Nat.le_trans HB2'.out.size hk3.size
  clear hk3 hx13l hx14l HV2 HR2 HX14' HX13' HL2 HG2' HB2' HX2 HH2 HX14 HX4 HL4 HG4 HB4 HV4 G15 x0 x1 x2 x3 xl y0 y1 y2 y3 yl z0 z1 z2 z3 zl q0 q1 q2 q3 n15 n15' n145 n145'
  generalize (((V2.setCell ⟨rb, 0, none⟩ (.slice bA R'.bags.length bc)).setCell ⟨rb, 1, none⟩ (.int .i64 R'.clock)).setCell ⟨rb, 2, none⟩ (.slice lA R'.left.length lc)).setCell ⟨rb, 3, none⟩ (.slice iA' R'.items.length ic') = V3 at *
  have hw1s : w.heap.size ≤ W1.heap.size := by omega
  refine (offer_any a S P t vl 0 0 (some ⟨g1, 0, none⟩) 1 c1 [tag] V3 (hide HS5.out) (by omega) (hide (HL5.out.bts rfl (fun k hp => Nat.lt_of_lt_of_le (HPI.out k hp) hw1s)).rb)).mono ?_
  rintro e w6 ⟨rfl, hoff⟩
  have HOK := hide hoff.kept
  obtain ⟨P', hsp, hpp⟩ := hoff.at_
  have HSP := hide hsp
  have HPP := hide (fun k (hk : P' k) => (hpp k hk).imp id And.left)
  clear hoff hsp hpp
  have np14 : ¬ P x14 := fun hp => by have := HPI.out _ hp; omega
  have np13 : ¬ P x13 := fun hp => by have := HPI.out _ hp; omega
  have npg0 : ¬ P g0 := fun hp => by have := HPI.out _ hp; omega
  have npg1 : ¬ P g1 := fun hp => by have := HPI.out _ hp; omega
  have HX146 := hide ((HOK.out.block x14 (blk_in HX145.out) np14).trans HX145.out)
  have HX136 := hide ((HOK.out.block x13 (blk_in HX135.out) np13).trans HX135.out)
  have HL6 := hide (HL5.out.kept HOK.out npg1)
  have HG6 := hide ((HOK.out.block g0 (blk_in HG5.out) npg0).trans HG5.out)
  have hz6 := HOK.out.size
  have hg15' := (LentB.lt HL5.out).2
  clear np14 np13 npg0 HX145 HX135 HG5 HS5
  obtain ⟨y0, y1, y2, y3, yl⟩ := four_of HX146.out
  obtain ⟨x0, x1, x2, x3, xl⟩ := four_of HX136.out
  have HKF := hide (keptFrame_any vl 0 0 (some ⟨g0, 0, none⟩) W1.heap.size 1 1 g1 c1 [tag] (fun _ => False) w6 (by decide) (hide (bts_at (w' := w6) HG6.out (fun h => h))) HL6)
  unfold frameV at HKF
  go_wp2_with fail
  refine HKF.out.mono ?_
  rintro e w7 ⟨rfl, hb7⟩
  have HB7 := hide hb7
  have HX147 := hide (keep HX146.out hb7)
  have HL7 := hide (HL6.out.kept (Kept.of_below (F := fun _ => False) hb7) (fun h => h))
  clear hb7 y0 y1 y2 y3 yl x0 x1 x2 x3 xl HKF
  obtain ⟨y0, y1, y2, y3, yl⟩ := four_of HX147.out
  have HOV := hide (overFrame_lent vl 0 0 W1.heap.size 1 g1 c1 [tag] w7 (by decide) HL7)
  unfold frameV at HOV
  go_wp2_with fail
  refine HOV.out.mono ?_
  rintro e w8 ⟨rfl, hk8⟩
  have hk : Kept (fun k => P k ∨ k = g1) V3 w8 := ((HOK.out.mono (fun _ h => .inl h)).trans (.of_below HB7.out)).trans (hk8.mono (fun _ h => .inr h))
  have hng : ¬ P' g1 := fun hp => by rcases HPP.out _ hp with h1 | h1; exact npg1 h1; omega
  have hs8 := (HSP.out.below HB7.out).frame hk8 (fun k hp e => hng (e ▸ hp))
  have hst := St.off HS.out HV5.out HR5.out HCAP.out hk (fun k hk => Or.elim hk (fun h => .inl (.inl h)) (fun e => .inr ⟨by omega, by rw [e]; simp⟩)) (by rintro (h | h); exact HS.out.rp h; omega) hs8 HPP.out (fun k hk => .inl hk) hz5 HSIM.out HSML.out
  have hbb := HB5.out.trans (hk.below (B := B) (by omega) (fun i hi hp => Or.elim hp (fun hp => by have := HS.out.low i hp; omega) (fun e => by omega)))
  have HST := hide hst
  have HBB := hide hbb
  have HMM := HML
  clear HS HV5 HR5 HCAP HL5 HB5 HOK HSP HPP HX146 HX136 HL6 HG6 HB7 HX147 HL7 HOV hk8 hk hng hs8 hst hbb y0 y1 y2 y3 yl npg1 HSML HPI HRO HV HML
  have HS := HST
  clear HST
  -- HS : Hid (St w8 ..), HMM : Hid (R.items.length ≤ _), HBB : Hid (Below B w w8)
  have hBl : B ≤ w8.heap.size := by have h1 := HS.out.rlow; have h2 := HS.out.rin; omega
  have HFIN : Hid (∀ w', Below w8.heap.size w8 w' → StepR w w' a rb B (m + 1) (.returned (.bool true))) := fun w' hb => ⟨rfl, StE.of HS.out HMM.out hb, HBB.out.trans (hb.mono hBl)⟩
  have HW1 := hide (fun W (hb : Below w8.heap.size w8 W) => when_any a _ _ W (hide (HS.out.sh.below hb)))
  have HW2 := hide (fun W (hb : Below w8.heap.size w8 W) => when_r _ _ _ _ bc lc ic' _ _ W (hide (HS.out.at_.below hb)))
  have HW3 := hide (fun W (hb : Below w8.heap.size w8 W) => waiting_any a _ _ vl W (hide (HS.out.sh.below hb)))
  have HW4 := hide (fun W (hb : Below w8.heap.size w8 W) => rwaiting_any _ _ _ _ bc lc ic' _ _ vl W (hide (HS.out.at_.below hb)))
  rw [HS.out.sim.when] at HW2
  rw [HS.out.sim.waiting] at HW4
  obtain ⟨tw, bw, HWV⟩ := whenV_pair (AS.when (S.offer t vl 0 0 [tag]).1)
  rw [HWV] at HW1 HW2
  unfold RSV at HW2 HW4
  generalize AS.waiting (S.offer t vl 0 0 [tag]).1 vl = wt at *
  have HV := hide HS.out.var
  have hrin := HS.out.rin
  clear HWV HS HMM HBB
  generalize (RS.bags R').length = nb at *
  generalize (RS.left R').length = nl at *
  generalize RS.clock R' = ck at *
  generalize (RS.items R').length = ni at *
  obtain ⟨x0, x1, x2, x3, xl⟩ := four_of HV.out
  go_wp2_with fail
  refine (HW1.out _ (Below.refl _ _)).mono ?_
  rintro e w' ⟨rfl, d, rfl⟩
  go_wp2_with fail
  refine (HW2.out _ (below_drewN (Below.refl _ _) d)).mono ?_
  rintro e wz ⟨rfl, hbz⟩
  have HBZ := hide ((below_drewN (Below.refl w8.heap.size w8) d).trans hbz)
  have hzl := HBZ.out.size
  have HVZ := hide (keep HV.out HBZ.out)
  clear hbz x0 x1 x2 x3 xl
  obtain ⟨x0, x1, x2, x3, xl⟩ := four_of HVZ.out
  have hrz : rb < wz.heap.size := by omega
  have HW3' := hide (fun s : Later wz => HW3.out s.w (HBZ.out.trans (s.below.mono hzl)))
  have HW4' := hide (fun s : Later wz => HW4.out s.w (HBZ.out.trans (s.below.mono hzl)))
  clear HW1 HW2 HW3 HW4
  go_wp2_with fail
  refine wp_region_later (W := wz) (by kernel_rfl) (by kernel_rfl) ?_
  iterate 20 (go_big_quiet_step ((first
    | (go_at_call 12; exact Later.call_same ((HW3'.out _).mono fun e w' h => ⟨h.1, h.2⟩))
    | (go_at_call 40; exact Later.call (HW4'.out _)))))
  refine wpQuiet_nil ?_
  rintro _ ⟨s, rfl⟩
  go_wp2_with fail
  go_ret
  exact HFIN.out _ (HBZ.out.trans (s.below.mono hzl))
set_option maxRecDepth 100000 in
set_option maxHeartbeats 4000000 in
theorem step_offer1 (a rb B m : Nat) (w : World) (h : Hid (StE w a rb B m)) (hmb : m ≤ 900) (t vl tag : Int) :
    Calls Try.prog 18 #[.pointer (some ⟨a, 0, none⟩), .pointer (some ⟨rb, 0, none⟩), .int .i64 1, .int .i64 t, .int .i64 vl, .int .u8 tag] w fun e w' => StepR w w' a rb B (m + 1) e := by
  obtain ⟨S, R, P, bA, lA, iA, bc, lc, ic, ps, hs, hm⟩ := h.out
  have HS := hide hs
  have hrin := HS.out.rin
  have HOF := hide (offer_len (R := R) (t := t) (vl := vl) (net := 0) (seq := 0) (bs := [tag]))
  have HML := hide (show (R.offer t vl 0 0 [tag]).1.items.length ≤ m + 1 by have := HOF.out; omega)
  have HSIM := hide (hs.sim.offer t vl 0 0 [tag]).2
  have HSML := hide (fun x (hx : x ∈ (R.offer t vl 0 0 [tag]).1.items) => show x.bytes.length ≤ 1000 from (offer_sub x hx).elim (hs.sml x) (fun e => by rw [e]; exact (by decide : (1 : Nat) ≤ 1000)))
  have HPI := hide hs.pin
  have HRO := hide (fun W L g (hb : Below w.heap.size w W) (h1 : ∀ k ∈ L, k < W.heap.size) (h4 : W.heap[g]? = some (.cells (u8s [tag]).toArray 5 (0, 0))) (hg : w.heap.size ≤ g) (h3 : g ∉ L) =>
    roffer_any R bA lA iA bc lc ic ps (FL P rb w.heap.size L) t vl 0 0 (some ⟨g, 0, none⟩) 1 1 [tag] W (hide (hs.at_.swap (F' := FL P rb w.heap.size L) (G := fun _ => False) (.of_below hb) (fun k e => e.elim) (fun k hk => hk.imp id And.left))) (hide hs.cap)
      (hide (fun k hk => Or.elim hk (fun hk => Nat.lt_of_lt_of_le (Or.elim hk (hs.pin k) (fun e => by rw [e]; exact hrin)) hb.size) (fun hk => h1 k hk.2)))
      (hide (bts_at (w' := W) h4 (fun hk => Or.elim hk (fun hk => Or.elim hk (fun hp => by have := hs.pin g hp; omega) (fun e => by omega)) (fun hk => h3 hk.2)))) (by decide) (by omega))
  rw [(hs.sim.offer t vl 0 0 [tag]).1] at HRO
  have HV := hide hs.var
  clear hs h hm HOF
  unfold RSV frameV at HRO
  generalize (R.offer t vl 0 0 [tag]).1 = R' at *
  generalize R.bags.length = nb at HRO HV
  generalize R.left.length = nl at HRO HV
  generalize R.clock = ck at HRO HV
  generalize R.items.length = ni at HRO HV
  go_enter Try.func18, Try.ntmps18
  go_wp2_with fail
  refine (frame_any vl tag w).mono ?_
  rintro e w1 ⟨g0, rfl, hg0, hgc, hb1⟩
  have HB1 := hide hb1
  have HGC := hide hgc
  have hz1 := hb1.size
  have hg01 := blk_in hgc
  clear hb1 hgc
  go_wp2_with fail
  have HX13 := hide (heap_alloc_new w1 (.cells #[.int .i64 vl, .int .i64 0, .int .i64 0, .slice (some ⟨g0, 0, none⟩) 1 1] 33))
  have hbX := (Below.refl w1.heap.size w1).alloc (Nat.le_refl _) (.cells #[.int .i64 vl, .int .i64 0, .int .i64 0, .slice (some ⟨g0, 0, none⟩) 1 1] 33)
  have HB2 := hide (HB1.out.trans (hbX.mono hz1))
  have HG2 := hide (keep HGC.out hbX)
  have hz2 : w1.heap.size < (w1.alloc (.cells #[.int .i64 vl, .int .i64 0, .int .i64 0, .slice (some ⟨g0, 0, none⟩) 1 1] 33)).heap.size := by simp
  clear hbX HB1 HGC
  generalize w1.alloc (.cells #[.int .i64 vl, .int .i64 0, .int .i64 0, .slice (some ⟨g0, 0, none⟩) 1 1] 33) = W1 at *
  generalize w1.heap.size = x13 at *
  refine (lentFrame_any vl 0 0 (some ⟨g0, 0, none⟩) 1 1 [tag] (fun _ => False) W1 (by decide) (hide (bts_at (w' := W1) HG2.out (fun h => h)))).mono ?_
  rintro e w2 ⟨g1, c1, rfl, hl1, hb2⟩
  unfold frameV
  have hg1 := LentB.lt hl1
  obtain ⟨hg1a, hg1b⟩ := hg1
  have HL1 := hide hl1
  have HB3 := hide (HB2.out.trans (hb2.mono (by have := HB2.out.size; exact this)))
  have HX3 := hide (keep HX13.out hb2)
  have HG3 := hide (keep HG2.out hb2)
  have hz3 := hb2.size
  clear hl1 hb2 HB2 HX13 HG2
  go_wp2_with fail
  have HX14 := hide (heap_alloc_new w2 (.cells #[.int .i64 vl, .int .i64 0, .int .i64 0, .slice (some ⟨g1, 0, none⟩) 1 c1] 33))
  have hbX := (Below.refl w2.heap.size w2).alloc (Nat.le_refl _) (.cells #[.int .i64 vl, .int .i64 0, .int .i64 0, .slice (some ⟨g1, 0, none⟩) 1 c1] 33)
  have HB4 := hide (HB3.out.trans (hbX.mono HB3.out.size))
  have HG4 := hide (keep HG3.out hbX)
  have HX4 := hide (keep HX3.out hbX)
  have HL4 := hide (HL1.out.kept (Kept.of_below (F := fun _ => False) hbX) (fun h => h))
  have hz4 : w2.heap.size < (w2.alloc (.cells #[.int .i64 vl, .int .i64 0, .int .i64 0, .slice (some ⟨g1, 0, none⟩) 1 c1] 33)).heap.size := by simp
  clear hbX HB3 HG3 HX3 HL1
  generalize w2.alloc (.cells #[.int .i64 vl, .int .i64 0, .int .i64 0, .slice (some ⟨g1, 0, none⟩) 1 c1] 33) = W2 at *
  generalize w2.heap.size = x14 at *
  have hwW : w.heap.size ≤ W2.heap.size := HB4.out.size
  have HV4 := hide (keep HV.out HB4.out)
  obtain ⟨x0, x1, x2, x3, xl⟩ := four_of HV4.out
  obtain ⟨y0, y1, y2, y3, yl⟩ := four_of HX4.out
  refine wp_region_tail (S := fun w' => Below W2.heap.size W2 w') 11 (by kernel_rfl) (by kernel_rfl) ((Below.refl _ _).drew) (fun hHeld => ?_)
  generalize W2.drew = V at *
  refine wpAnyT_take (i := 0) (oi := ⟨some 38, _, _, _, _, _⟩) (v := ?_) rfl (by kernel_rfl) (fun _ _ _ h => h) (Or.inl ⟨by rfl, ?_⟩) hHeld ?_
  rotate_left
  · intro v hS
    skip
    go_simp
    with_reducible rfl
  (try simp only [Act.put, List.setIfInBounds_toArray, List.set_cons_zero, List.set_cons_succ])
  refine wpAnyT_take (i := 1) (oi := ⟨some 39, _, _, _, _, _⟩) (v := ?_) rfl (by kernel_rfl) (fun _ _ _ h => h) (Or.inl ⟨by rfl, ?_⟩) hHeld ?_
  rotate_left
  · intro v hS
    skip
    go_simp
    with_reducible rfl
  (try simp only [Act.put, List.setIfInBounds_toArray, List.set_cons_zero, List.set_cons_succ])
  refine wpAnyT_take (i := 2) (oi := ⟨some 40, _, _, _, _, _⟩) (v := ?_) rfl (by kernel_rfl) (fun _ _ _ h => h) (Or.inl ⟨by rfl, ?_⟩) hHeld ?_
  rotate_left
  · intro v hS
    have c0 := cellB hS x0; have c1 := cellB hS x1; have c2 := cellB hS x2; have c3 := cellB hS x3
    go_simp
    with_reducible rfl
  (try simp only [Act.put, List.setIfInBounds_toArray, List.set_cons_zero, List.set_cons_succ])
  refine wpAnyT_take (i := 3) (oi := ⟨some 41, _, _, _, _, _⟩) (v := ?_) rfl (by kernel_rfl) (fun _ _ _ h => h) (Or.inl ⟨by rfl, ?_⟩) hHeld ?_
  rotate_left
  · intro v hS
    skip
    go_simp
    with_reducible rfl
  (try simp only [Act.put, List.setIfInBounds_toArray, List.set_cons_zero, List.set_cons_succ])
  refine wpAnyT_take (i := 4) (oi := ⟨some 42, _, _, _, _, _⟩) (v := ?_) rfl (by kernel_rfl) (fun _ _ _ h => h) (Or.inl ⟨by rfl, ?_⟩) hHeld ?_
  rotate_left
  · intro v hS
    have c0 := cellB hS y0; have c1 := cellB hS y1; have c2 := cellB hS y2; have c3 := cellB hS y3
    go_simp
    with_reducible rfl
  (try simp only [Act.put, List.setIfInBounds_toArray, List.set_cons_zero, List.set_cons_succ])
  clear x0 x1 x2 x3 xl y0 y1 y2 y3 yl
  refine wpAnyT_ready (rs := [5, 9]) (by kernel_rfl) (by simp) (by rfl) (AllT.cons rfl (fun K hK => ?_) (AllT.cons rfl (fun K hK => ?_) AllT.nil))
  go_simp
  refine (HRO.out V [g1] g0 (HB4.out.trans (hHeld.mono hwW)) (by have hz := hHeld.size; simp; omega) (keep HG4.out hHeld) hg0 (by simp; omega)).mono ?_
  rintro e V2 ⟨iA', ic', ps', rfl, hr, hb5, hcap⟩
  unfold RSV
  go_wp2_with fail
  refine hK.out _ _ (hHeld.trans (hb5.mono hHeld.size)) (fun hHeld1 => ?_)
  clear hK K
  have HR := hide hr
  have HCAP := hide hcap
  skip
  clear hHeld hr hcap hb5
  have hHeld := hHeld1
  clear hHeld1 V
  obtain ⟨V, rfl⟩ : ∃ V, V = V2 := ⟨_, rfl⟩
  refine wpAnyT_take (i := 6) (oi := ⟨some 37, _, _, _, _, _⟩) (v := ?_) rfl (by kernel_rfl) (fun _ _ _ h => h) (Or.inl ⟨by rfl, ?_⟩) hHeld ?_
  rotate_left
  · intro v hS
    skip
    go_simp
    with_reducible rfl
  (try simp only [Act.put, List.setIfInBounds_toArray, List.set_cons_zero, List.set_cons_succ])
  refine wpAnyT_take (i := 7) (oi := ⟨some 44, _, _, _, _, _⟩) (v := ?_) rfl (by kernel_rfl) (fun _ _ _ h => h) (Or.inl ⟨by rfl, ?_⟩) hHeld ?_
  rotate_left
  · intro v hS
    skip
    go_simp
    with_reducible rfl
  (try simp only [Act.put, List.setIfInBounds_toArray, List.set_cons_zero, List.set_cons_succ])
  refine wpAnyT_take (i := 8) (oi := ⟨some 45, _, _, _, _, _⟩) (v := ?_) rfl (by kernel_rfl) (fun _ _ _ h => h) (Or.inl ⟨by rfl, ?_⟩) hHeld ?_
  rotate_left
  · intro v hS
    skip
    go_simp
    with_reducible rfl
  (try simp only [Act.put, List.setIfInBounds_toArray, List.set_cons_zero, List.set_cons_succ])
  refine wpAnyT_ready (rs := [9]) (by kernel_rfl) (by simp) (by rfl) (AllT.cons rfl (fun K hK => ?_) AllT.nil)
  go_simp
  refine hK.out _ _ (hHeld.alloc hHeld.size _) (fun hHeld1 => ?_)
  clear hK K
  have X15 := hide (heap_alloc_new V (.cells #[.slice none 0 0, .int .i64 0, .slice none 0 0, .slice none 0 0] 45))
  have G15 := hide hHeld.size
  have hr := HR.out.swap (F' := FL P rb w.heap.size [V.heap.size, g1]) (G := fun _ => False) (.of_below ((Below.refl _ _).alloc (Nat.le_refl _) (.cells #[.slice none 0 0, .int .i64 0, .slice none 0 0, .slice none 0 0] 45))) (fun k e => e.elim) (FL.cons (Nat.le_refl _)); clear HR; have HR := hide hr; clear hr
  clear hHeld
  have hHeld := hHeld1
  clear hHeld1
  generalize V.heap.size = g15 at *
  generalize V.alloc (.cells #[.slice none 0 0, .int .i64 0, .slice none 0 0, .slice none 0 0] 45) = V' at *
  clear V
  obtain ⟨V, rfl⟩ : ∃ V, V = V' := ⟨_, rfl⟩
  have g15g := G15.out
  have n15 : ¬ g15 = rb := by omega
  have n15' : ¬ rb = g15 := by omega
  have n14 : ¬ x14 = rb := by omega
  have n14' : ¬ rb = x14 := by omega
  have n145 : ¬ x14 = g15 := by omega
  have n145' : ¬ g15 = x14 := by omega
  obtain ⟨z0, z1, z2, z3, zl⟩ := four_of X15.out
  have q0 := frozen_of_row V g15 0 _ _ X15.out
  have q1 := frozen_of_row V g15 1 _ _ X15.out
  have q2 := frozen_of_row V g15 2 _ _ X15.out
  have q3 := frozen_of_row V g15 3 _ _ X15.out
  refine wpAnyT_ready (rs := [10]) (by kernel_rfl) (by simp) (by rfl) (AllT.cons rfl (fun K hK => ?_) AllT.nil)
  go_simp
  refine hK.out _ _ ((((hHeld.setCell (p := ⟨g15, 0, none⟩) g15g _).setCell (p := ⟨g15, 1, none⟩) g15g _).setCell (p := ⟨g15, 2, none⟩) g15g _).setCell (p := ⟨g15, 3, none⟩) g15g _) (fun hHeld1 => ?_)
  clear hK K
  have hr2 := HR.out.swap (F' := FL P rb w.heap.size [g15, g1]) (set_kept4 V g15 (.slice bA R'.bags.length bc) (.int .i64 R'.clock) (.slice lA R'.left.length lc) (.slice iA' R'.items.length ic')) (fun k e => .inr ⟨by omega, by rw [e]; exact List.mem_cons_self⟩) (fun k hk => .inl hk)
  have hx2 : ((((V.setCell ⟨g15, 0, none⟩ (.slice bA R'.bags.length bc)).setCell ⟨g15, 1, none⟩ (.int .i64 R'.clock)).setCell ⟨g15, 2, none⟩ (.slice lA R'.left.length lc)).setCell ⟨g15, 3, none⟩ (.slice iA' R'.items.length ic')).heap[g15]? = some (.cells #[.slice bA R'.bags.length bc, .int .i64 R'.clock, .slice lA R'.left.length lc, .slice iA' R'.items.length ic'] 45 (0, 0)) := set_row4 X15.out
  have HR2 := hide hr2
  have HX2 := hide hx2
  have HH2 := hide hHeld1
  clear hr2 hx2 hHeld1 hHeld HR X15 z0 z1 z2 z3 zl q0 q1 q2 q3
  generalize (((V.setCell ⟨g15, 0, none⟩ (.slice bA R'.bags.length bc)).setCell ⟨g15, 1, none⟩ (.int .i64 R'.clock)).setCell ⟨g15, 2, none⟩ (.slice lA R'.left.length lc)).setCell ⟨g15, 3, none⟩ (.slice iA' R'.items.length ic') = V2 at *
  clear V
  refine wpAnyT_done (by kernel_rfl) ?_
  (try simp only [Act.put, List.setIfInBounds_toArray, List.set_cons_zero, List.set_cons_succ])
  simp only [List.drop_succ_cons, List.drop_zero, List.toList_toArray]
  have HB2' := hide (HB4.out.trans (HH2.out.mono hwW))
  have HV2 := hide (keep HV4.out HH2.out)
  have HX14' := hide (keep HX14.out HH2.out)
  have HX13' := hide (keep HX4.out HH2.out)
  have HL2 := hide (HL4.out.kept (Kept.of_below (F := fun _ => False) HH2.out) (fun h => h))
  have HG2' := hide (keep HG4.out HH2.out)
  obtain ⟨z0, z1, z2, z3, zl⟩ := four_of HX2.out
  obtain ⟨x0, x1, x2, x3, xl⟩ := four_of HV2.out
  obtain ⟨y0, y1, y2, y3, yl⟩ := four_of HX14'.out
  have q0 := frozen_of_row V2 rb 0 _ _ HV2.out
  have q1 := frozen_of_row V2 rb 1 _ _ HV2.out
  have q2 := frozen_of_row V2 rb 2 _ _ HV2.out
  have q3 := frozen_of_row V2 rb 3 _ _ HV2.out
  go_wp2_with fail
  have hk3 := set_kept4 V2 rb (.slice bA R'.bags.length bc) (.int .i64 R'.clock) (.slice lA R'.left.length lc) (.slice iA' R'.items.length ic')
  have hx13l := blk_in HX13'.out
  have hx14l := blk_in HX14'.out
  have hrlow := HS.out.rlow
  have HV5 := hide (show ((((V2.setCell ⟨rb, 0, none⟩ (.slice bA R'.bags.length bc)).setCell ⟨rb, 1, none⟩ (.int .i64 R'.clock)).setCell ⟨rb, 2, none⟩ (.slice lA R'.left.length lc)).setCell ⟨rb, 3, none⟩ (.slice iA' R'.items.length ic')).heap[rb]? = some (.cells #[.slice bA R'.bags.length bc, .int .i64 R'.clock, .slice lA R'.left.length lc, .slice iA' R'.items.length ic'] 45 (0, 0)) from set_row4 HV2.out)
  have HR5 := hide (HR2.out.swap (F' := FL P rb w.heap.size [g15, g1]) hk3 (fun k e => .inl (.inr e)) (fun k hk => .inl hk))
  have HS5 := hide ((HS.out.sh.below HB2'.out).frame hk3 (fun k hp e => HS.out.rp (e ▸ hp)))
  have HX145 := hide ((hk3.block x14 hx14l (by omega)).trans HX14'.out)
  have HX135 := hide ((hk3.block x13 hx13l (by omega)).trans HX13'.out)
  have HL5 := hide (HL2.out.kept hk3 (by omega))
  have HG5 := hide ((hk3.block g0 (blk_in HG2'.out) (by omega)).trans HG2'.out)
  have hBl : B ≤ w.heap.size := by omega
  have HB5 := hide (((((HB2'.out.mono hBl).setCell (p := ⟨rb, 0, none⟩) hrlow (.slice bA R'.bags.length bc)).setCell (p := ⟨rb, 1, none⟩) hrlow (.int .i64 R'.clock)).setCell (p := ⟨rb, 2, none⟩) hrlow (.slice lA R'.left.length lc)).setCell (p := ⟨rb, 3, none⟩) hrlow (.slice iA' R'.items.length ic'))
  have hz5 : w.heap.size ≤ ((((V2.setCell ⟨rb, 0, none⟩ (.slice bA R'.bags.length bc)).setCell ⟨rb, 1, none⟩ (.int .i64 R'.clock)).setCell ⟨rb, 2, none⟩ (.slice lA R'.left.length lc)).setCell ⟨rb, 3, none⟩ (.slice iA' R'.items.length ic')).heap.size := Nat.le_trans HB2'.out.size hk3.size
  clear hk3 hx13l hx14l HV2 HR2 HX14' HX13' HL2 HG2' HB2' HX2 HH2 HX14 HX4 HL4 HG4 HB4 HV4 G15 x0 x1 x2 x3 xl y0 y1 y2 y3 yl z0 z1 z2 z3 zl q0 q1 q2 q3 n15 n15' n145 n145'
  generalize (((V2.setCell ⟨rb, 0, none⟩ (.slice bA R'.bags.length bc)).setCell ⟨rb, 1, none⟩ (.int .i64 R'.clock)).setCell ⟨rb, 2, none⟩ (.slice lA R'.left.length lc)).setCell ⟨rb, 3, none⟩ (.slice iA' R'.items.length ic') = V3 at *
  have hw1s : w.heap.size ≤ W1.heap.size := by omega
  refine (offer_any a S P t vl 0 0 (some ⟨g1, 0, none⟩) 1 c1 [tag] V3 (hide HS5.out) (by omega) (hide (HL5.out.bts rfl (fun k hp => Nat.lt_of_lt_of_le (HPI.out k hp) hw1s)).rb)).mono ?_
  rintro e w6 ⟨rfl, hoff⟩
  have HOK := hide hoff.kept
  obtain ⟨P', hsp, hpp⟩ := hoff.at_
  have HSP := hide hsp
  have HPP := hide (fun k (hk : P' k) => (hpp k hk).imp id And.left)
  clear hoff hsp hpp
  have np14 : ¬ P x14 := fun hp => by have := HPI.out _ hp; omega
  have np13 : ¬ P x13 := fun hp => by have := HPI.out _ hp; omega
  have npg0 : ¬ P g0 := fun hp => by have := HPI.out _ hp; omega
  have npg1 : ¬ P g1 := fun hp => by have := HPI.out _ hp; omega
  have HX146 := hide ((HOK.out.block x14 (blk_in HX145.out) np14).trans HX145.out)
  have HX136 := hide ((HOK.out.block x13 (blk_in HX135.out) np13).trans HX135.out)
  have HL6 := hide (HL5.out.kept HOK.out npg1)
  have HG6 := hide ((HOK.out.block g0 (blk_in HG5.out) npg0).trans HG5.out)
  have hz6 := HOK.out.size
  have hg15' := (LentB.lt HL5.out).2
  clear np14 np13 npg0 HX145 HX135 HG5 HS5
  obtain ⟨y0, y1, y2, y3, yl⟩ := four_of HX146.out
  obtain ⟨x0, x1, x2, x3, xl⟩ := four_of HX136.out
  have HKF := hide (keptFrame_any vl 0 0 (some ⟨g0, 0, none⟩) W1.heap.size 1 1 g1 c1 [tag] (fun _ => False) w6 (by decide) (hide (bts_at (w' := w6) HG6.out (fun h => h))) HL6)
  unfold frameV at HKF
  go_wp2_with fail
  refine HKF.out.mono ?_
  rintro e w7 ⟨rfl, hb7⟩
  have HB7 := hide hb7
  have HX147 := hide (keep HX146.out hb7)
  have HL7 := hide (HL6.out.kept (Kept.of_below (F := fun _ => False) hb7) (fun h => h))
  clear hb7 y0 y1 y2 y3 yl x0 x1 x2 x3 xl HKF
  obtain ⟨y0, y1, y2, y3, yl⟩ := four_of HX147.out
  have HOV := hide (overFrame_lent vl 0 0 W1.heap.size 1 g1 c1 [tag] w7 (by decide) HL7)
  unfold frameV at HOV
  go_wp2_with fail
  refine HOV.out.mono ?_
  rintro e w8 ⟨rfl, hk8⟩
  have hk : Kept (fun k => P k ∨ k = g1) V3 w8 := ((HOK.out.mono (fun _ h => .inl h)).trans (.of_below HB7.out)).trans (hk8.mono (fun _ h => .inr h))
  have hng : ¬ P' g1 := fun hp => by rcases HPP.out _ hp with h1 | h1; exact npg1 h1; omega
  have hs8 := (HSP.out.below HB7.out).frame hk8 (fun k hp e => hng (e ▸ hp))
  have hst := St.off HS.out HV5.out HR5.out HCAP.out hk (fun k hk => Or.elim hk (fun h => .inl (.inl h)) (fun e => .inr ⟨by omega, by rw [e]; simp⟩)) (by rintro (h | h); exact HS.out.rp h; omega) hs8 HPP.out (fun k hk => .inl hk) hz5 HSIM.out HSML.out
  have hbb := HB5.out.trans (hk.below (B := B) (by omega) (fun i hi hp => Or.elim hp (fun hp => by have := HS.out.low i hp; omega) (fun e => by omega)))
  have HST := hide hst
  have HBB := hide hbb
  have HMM := HML
  clear HS HV5 HR5 HCAP HL5 HB5 HOK HSP HPP HX146 HX136 HL6 HG6 HB7 HX147 HL7 HOV hk8 hk hng hs8 hst hbb y0 y1 y2 y3 yl npg1 HSML HPI HRO HV HML
  have HS := HST
  clear HST
  -- HS : Hid (St w8 ..), HMM : Hid (R.items.length ≤ _), HBB : Hid (Below B w w8)
  have hBl : B ≤ w8.heap.size := by have h1 := HS.out.rlow; have h2 := HS.out.rin; omega
  have HFIN : Hid (∀ w', Below w8.heap.size w8 w' → StepR w w' a rb B (m + 1) (.returned (.bool true))) := fun w' hb => ⟨rfl, StE.of HS.out HMM.out hb, HBB.out.trans (hb.mono hBl)⟩
  have HW1 := hide (fun W (hb : Below w8.heap.size w8 W) => when_any a _ _ W (hide (HS.out.sh.below hb)))
  have HW2 := hide (fun W (hb : Below w8.heap.size w8 W) => when_r _ _ _ _ bc lc ic' _ _ W (hide (HS.out.at_.below hb)))
  have HW3 := hide (fun W (hb : Below w8.heap.size w8 W) => waiting_any a _ _ vl W (hide (HS.out.sh.below hb)))
  have HW4 := hide (fun W (hb : Below w8.heap.size w8 W) => rwaiting_any _ _ _ _ bc lc ic' _ _ vl W (hide (HS.out.at_.below hb)))
  rw [HS.out.sim.when] at HW2
  rw [HS.out.sim.waiting] at HW4
  obtain ⟨tw, bw, HWV⟩ := whenV_pair (AS.when (S.offer t vl 0 0 [tag]).1)
  rw [HWV] at HW1 HW2
  unfold RSV at HW2 HW4
  generalize AS.waiting (S.offer t vl 0 0 [tag]).1 vl = wt at *
  have HV := hide HS.out.var
  have hrin := HS.out.rin
  clear HWV HS HMM HBB
  generalize (RS.bags R').length = nb at *
  generalize (RS.left R').length = nl at *
  generalize RS.clock R' = ck at *
  generalize (RS.items R').length = ni at *
  obtain ⟨x0, x1, x2, x3, xl⟩ := four_of HV.out
  go_wp2_with fail
  refine (HW1.out _ (Below.refl _ _)).mono ?_
  rintro e w' ⟨rfl, d, rfl⟩
  go_wp2_with fail
  refine (HW2.out _ (below_drewN (Below.refl _ _) d)).mono ?_
  rintro e wz ⟨rfl, hbz⟩
  have HBZ := hide ((below_drewN (Below.refl w8.heap.size w8) d).trans hbz)
  have hzl := HBZ.out.size
  have HVZ := hide (keep HV.out HBZ.out)
  clear hbz x0 x1 x2 x3 xl
  obtain ⟨x0, x1, x2, x3, xl⟩ := four_of HVZ.out
  have hrz : rb < wz.heap.size := by omega
  have HW3' := hide (fun s : Later wz => HW3.out s.w (HBZ.out.trans (s.below.mono hzl)))
  have HW4' := hide (fun s : Later wz => HW4.out s.w (HBZ.out.trans (s.below.mono hzl)))
  clear HW1 HW2 HW3 HW4
  go_wp2_with fail
  refine wp_region_later (W := wz) (by kernel_rfl) (by kernel_rfl) ?_
  iterate 20 (go_big_quiet_step ((first
    | (go_at_call 12; exact Later.call_same ((HW3'.out _).mono fun e w' h => ⟨h.1, h.2⟩))
    | (go_at_call 40; exact Later.call (HW4'.out _)))))
  refine wpQuiet_nil ?_
  rintro _ ⟨s, rfl⟩
  go_wp2_with fail
  go_ret
  exact HFIN.out _ (HBZ.out.trans (s.below.mono hzl))
  go_simp
  refine hK.out _ _ (hHeld.alloc hHeld.size _) (fun hHeld1 => ?_)
  clear hK K
  have X15 := hide (heap_alloc_new V (.cells #[.slice none 0 0, .int .i64 0, .slice none 0 0, .slice none 0 0] 45))
  have G15 := hide hHeld.size
  skip
  clear hHeld
  have hHeld := hHeld1
  clear hHeld1
  generalize V.heap.size = g15 at *
  generalize V.alloc (.cells #[.slice none 0 0, .int .i64 0, .slice none 0 0, .slice none 0 0] 45) = V' at *
  clear V
  obtain ⟨V, rfl⟩ : ∃ V, V = V' := ⟨_, rfl⟩
  refine wpAnyT_ready (rs := [5]) (by kernel_rfl) (by simp) (by rfl) (AllT.cons rfl (fun K hK => ?_) AllT.nil)
  have g15l := blk_in X15.out
  have g15g := G15.out
  go_simp
  refine (HRO.out V [g15, g1] g0 (HB4.out.trans (hHeld.mono hwW)) (by have hz := hHeld.size; simp; omega) (keep HG4.out hHeld) hg0 (by simp; omega)).mono ?_
  rintro e V2 ⟨iA', ic', ps', rfl, hr, hb5, hcap⟩
  unfold RSV
  go_wp2_with fail
  refine hK.out _ _ (hHeld.trans (hb5.mono hHeld.size)) (fun hHeld1 => ?_)
  clear hK K
  have HR := hide hr
  have HCAP := hide hcap
  have hx := keep X15.out hb5; clear X15 g15l g15g; have X15 := hide hx; clear hx
  clear hHeld hr hcap hb5
  have hHeld := hHeld1
  clear hHeld1 V
  obtain ⟨V, rfl⟩ : ∃ V, V = V2 := ⟨_, rfl⟩
  refine wpAnyT_take (i := 6) (oi := ⟨some 37, _, _, _, _, _⟩) (v := ?_) rfl (by kernel_rfl) (fun _ _ _ h => h) (Or.inl ⟨by rfl, ?_⟩) hHeld ?_
  rotate_left
  · intro v hS
    skip
    go_simp
    with_reducible rfl
  (try simp only [Act.put, List.setIfInBounds_toArray, List.set_cons_zero, List.set_cons_succ])
  refine wpAnyT_take (i := 7) (oi := ⟨some 44, _, _, _, _, _⟩) (v := ?_) rfl (by kernel_rfl) (fun _ _ _ h => h) (Or.inl ⟨by rfl, ?_⟩) hHeld ?_
  rotate_left
  · intro v hS
    skip
    go_simp
    with_reducible rfl
  (try simp only [Act.put, List.setIfInBounds_toArray, List.set_cons_zero, List.set_cons_succ])
  refine wpAnyT_take (i := 8) (oi := ⟨some 45, _, _, _, _, _⟩) (v := ?_) rfl (by kernel_rfl) (fun _ _ _ h => h) (Or.inl ⟨by rfl, ?_⟩) hHeld ?_
  rotate_left
  · intro v hS
    skip
    go_simp
    with_reducible rfl
  (try simp only [Act.put, List.setIfInBounds_toArray, List.set_cons_zero, List.set_cons_succ])
  have g15g := G15.out
  have n15 : ¬ g15 = rb := by omega
  have n15' : ¬ rb = g15 := by omega
  have n14 : ¬ x14 = rb := by omega
  have n14' : ¬ rb = x14 := by omega
  have n145 : ¬ x14 = g15 := by omega
  have n145' : ¬ g15 = x14 := by omega
  obtain ⟨z0, z1, z2, z3, zl⟩ := four_of X15.out
  have q0 := frozen_of_row V g15 0 _ _ X15.out
  have q1 := frozen_of_row V g15 1 _ _ X15.out
  have q2 := frozen_of_row V g15 2 _ _ X15.out
  have q3 := frozen_of_row V g15 3 _ _ X15.out
  refine wpAnyT_ready (rs := [10]) (by kernel_rfl) (by simp) (by rfl) (AllT.cons rfl (fun K hK => ?_) AllT.nil)
  go_simp
  refine hK.out _ _ ((((hHeld.setCell (p := ⟨g15, 0, none⟩) g15g _).setCell (p := ⟨g15, 1, none⟩) g15g _).setCell (p := ⟨g15, 2, none⟩) g15g _).setCell (p := ⟨g15, 3, none⟩) g15g _) (fun hHeld1 => ?_)
  clear hK K
  have hr2 := HR.out.swap (F' := FL P rb w.heap.size [g15, g1]) (set_kept4 V g15 (.slice bA R'.bags.length bc) (.int .i64 R'.clock) (.slice lA R'.left.length lc) (.slice iA' R'.items.length ic')) (fun k e => .inr ⟨by omega, by rw [e]; exact List.mem_cons_self⟩) (fun k hk => .inl hk)
  have hx2 : ((((V.setCell ⟨g15, 0, none⟩ (.slice bA R'.bags.length bc)).setCell ⟨g15, 1, none⟩ (.int .i64 R'.clock)).setCell ⟨g15, 2, none⟩ (.slice lA R'.left.length lc)).setCell ⟨g15, 3, none⟩ (.slice iA' R'.items.length ic')).heap[g15]? = some (.cells #[.slice bA R'.bags.length bc, .int .i64 R'.clock, .slice lA R'.left.length lc, .slice iA' R'.items.length ic'] 45 (0, 0)) := set_row4 X15.out
  have HR2 := hide hr2
  have HX2 := hide hx2
  have HH2 := hide hHeld1
  clear hr2 hx2 hHeld1 hHeld HR X15 z0 z1 z2 z3 zl q0 q1 q2 q3
  generalize (((V.setCell ⟨g15, 0, none⟩ (.slice bA R'.bags.length bc)).setCell ⟨g15, 1, none⟩ (.int .i64 R'.clock)).setCell ⟨g15, 2, none⟩ (.slice lA R'.left.length lc)).setCell ⟨g15, 3, none⟩ (.slice iA' R'.items.length ic') = V2 at *
  clear V
  refine wpAnyT_done (by kernel_rfl) ?_
  (try simp only [Act.put, List.setIfInBounds_toArray, List.set_cons_zero, List.set_cons_succ])
  simp only [List.drop_succ_cons, List.drop_zero, List.toList_toArray]
  have HB2' := hide (HB4.out.trans (HH2.out.mono hwW))
  have HV2 := hide (keep HV4.out HH2.out)
  have HX14' := hide (keep HX14.out HH2.out)
  have HX13' := hide (keep HX4.out HH2.out)
  have HL2 := hide (HL4.out.kept (Kept.of_below (F := fun _ => False) HH2.out) (fun h => h))
  have HG2' := hide (keep HG4.out HH2.out)
  obtain ⟨z0, z1, z2, z3, zl⟩ := four_of HX2.out
  obtain ⟨x0, x1, x2, x3, xl⟩ := four_of HV2.out
  obtain ⟨y0, y1, y2, y3, yl⟩ := four_of HX14'.out
  have q0 := frozen_of_row V2 rb 0 _ _ HV2.out
  have q1 := frozen_of_row V2 rb 1 _ _ HV2.out
  have q2 := frozen_of_row V2 rb 2 _ _ HV2.out
  have q3 := frozen_of_row V2 rb 3 _ _ HV2.out
  go_wp2_with fail
  have hk3 := set_kept4 V2 rb (.slice bA R'.bags.length bc) (.int .i64 R'.clock) (.slice lA R'.left.length lc) (.slice iA' R'.items.length ic')
  have hx13l := blk_in HX13'.out
  have hx14l := blk_in HX14'.out
  have hrlow := HS.out.rlow
  have HV5 := hide (show ((((V2.setCell ⟨rb, 0, none⟩ (.slice bA R'.bags.length bc)).setCell ⟨rb, 1, none⟩ (.int .i64 R'.clock)).setCell ⟨rb, 2, none⟩ (.slice lA R'.left.length lc)).setCell ⟨rb, 3, none⟩ (.slice iA' R'.items.length ic')).heap[rb]? = some (.cells #[.slice bA R'.bags.length bc, .int .i64 R'.clock, .slice lA R'.left.length lc, .slice iA' R'.items.length ic'] 45 (0, 0)) from set_row4 HV2.out)
  have HR5 := hide (HR2.out.swap (F' := FL P rb w.heap.size [g15, g1]) hk3 (fun k e => .inl (.inr e)) (fun k hk => .inl hk))
  have HS5 := hide ((HS.out.sh.below HB2'.out).frame hk3 (fun k hp e => HS.out.rp (e ▸ hp)))
  have HX145 := hide ((hk3.block x14 hx14l (by omega)).trans HX14'.out)
  have HX135 := hide ((hk3.block x13 hx13l (by omega)).trans HX13'.out)
  have HL5 := hide (HL2.out.kept hk3 (by omega))
  have HG5 := hide ((hk3.block g0 (blk_in HG2'.out) (by omega)).trans HG2'.out)
  have hBl : B ≤ w.heap.size := by omega
  have HB5 := hide (((((HB2'.out.mono hBl).setCell (p := ⟨rb, 0, none⟩) hrlow (.slice bA R'.bags.length bc)).setCell (p := ⟨rb, 1, none⟩) hrlow (.int .i64 R'.clock)).setCell (p := ⟨rb, 2, none⟩) hrlow (.slice lA R'.left.length lc)).setCell (p := ⟨rb, 3, none⟩) hrlow (.slice iA' R'.items.length ic'))
  have hz5 : w.heap.size ≤ ((((V2.setCell ⟨rb, 0, none⟩ (.slice bA R'.bags.length bc)).setCell ⟨rb, 1, none⟩ (.int .i64 R'.clock)).setCell ⟨rb, 2, none⟩ (.slice lA R'.left.length lc)).setCell ⟨rb, 3, none⟩ (.slice iA' R'.items.length ic')).heap.size := Nat.le_trans HB2'.out.size hk3.size
  clear hk3 hx13l hx14l HV2 HR2 HX14' HX13' HL2 HG2' HB2' HX2 HH2 HX14 HX4 HL4 HG4 HB4 HV4 G15 x0 x1 x2 x3 xl y0 y1 y2 y3 yl z0 z1 z2 z3 zl q0 q1 q2 q3 n15 n15' n145 n145'
  generalize (((V2.setCell ⟨rb, 0, none⟩ (.slice bA R'.bags.length bc)).setCell ⟨rb, 1, none⟩ (.int .i64 R'.clock)).setCell ⟨rb, 2, none⟩ (.slice lA R'.left.length lc)).setCell ⟨rb, 3, none⟩ (.slice iA' R'.items.length ic') = V3 at *
  have hw1s : w.heap.size ≤ W1.heap.size := by omega
  refine (offer_any a S P t vl 0 0 (some ⟨g1, 0, none⟩) 1 c1 [tag] V3 (hide HS5.out) (by omega) (hide (HL5.out.bts rfl (fun k hp => Nat.lt_of_lt_of_le (HPI.out k hp) hw1s)).rb)).mono ?_
  rintro e w6 ⟨rfl, hoff⟩
  have HOK := hide hoff.kept
  obtain ⟨P', hsp, hpp⟩ := hoff.at_
  have HSP := hide hsp
  have HPP := hide (fun k (hk : P' k) => (hpp k hk).imp id And.left)
  clear hoff hsp hpp
  have np14 : ¬ P x14 := fun hp => by have := HPI.out _ hp; omega
  have np13 : ¬ P x13 := fun hp => by have := HPI.out _ hp; omega
  have npg0 : ¬ P g0 := fun hp => by have := HPI.out _ hp; omega
  have npg1 : ¬ P g1 := fun hp => by have := HPI.out _ hp; omega
  have HX146 := hide ((HOK.out.block x14 (blk_in HX145.out) np14).trans HX145.out)
  have HX136 := hide ((HOK.out.block x13 (blk_in HX135.out) np13).trans HX135.out)
  have HL6 := hide (HL5.out.kept HOK.out npg1)
  have HG6 := hide ((HOK.out.block g0 (blk_in HG5.out) npg0).trans HG5.out)
  have hz6 := HOK.out.size
  have hg15' := (LentB.lt HL5.out).2
  clear np14 np13 npg0 HX145 HX135 HG5 HS5
  obtain ⟨y0, y1, y2, y3, yl⟩ := four_of HX146.out
  obtain ⟨x0, x1, x2, x3, xl⟩ := four_of HX136.out
  have HKF := hide (keptFrame_any vl 0 0 (some ⟨g0, 0, none⟩) W1.heap.size 1 1 g1 c1 [tag] (fun _ => False) w6 (by decide) (hide (bts_at (w' := w6) HG6.out (fun h => h))) HL6)
  unfold frameV at HKF
  go_wp2_with fail
  refine HKF.out.mono ?_
  rintro e w7 ⟨rfl, hb7⟩
  have HB7 := hide hb7
  have HX147 := hide (keep HX146.out hb7)
  have HL7 := hide (HL6.out.kept (Kept.of_below (F := fun _ => False) hb7) (fun h => h))
  clear hb7 y0 y1 y2 y3 yl x0 x1 x2 x3 xl HKF
  obtain ⟨y0, y1, y2, y3, yl⟩ := four_of HX147.out
  have HOV := hide (overFrame_lent vl 0 0 W1.heap.size 1 g1 c1 [tag] w7 (by decide) HL7)
  unfold frameV at HOV
  go_wp2_with fail
  refine HOV.out.mono ?_
  rintro e w8 ⟨rfl, hk8⟩
  have hk : Kept (fun k => P k ∨ k = g1) V3 w8 := ((HOK.out.mono (fun _ h => .inl h)).trans (.of_below HB7.out)).trans (hk8.mono (fun _ h => .inr h))
  have hng : ¬ P' g1 := fun hp => by rcases HPP.out _ hp with h1 | h1; exact npg1 h1; omega
  have hs8 := (HSP.out.below HB7.out).frame hk8 (fun k hp e => hng (e ▸ hp))
  have hst := St.off HS.out HV5.out HR5.out HCAP.out hk (fun k hk => Or.elim hk (fun h => .inl (.inl h)) (fun e => .inr ⟨by omega, by rw [e]; simp⟩)) (by rintro (h | h); exact HS.out.rp h; omega) hs8 HPP.out (fun k hk => .inl hk) hz5 HSIM.out HSML.out
  have hbb := HB5.out.trans (hk.below (B := B) (by omega) (fun i hi hp => Or.elim hp (fun hp => by have := HS.out.low i hp; omega) (fun e => by omega)))
  have HST := hide hst
  have HBB := hide hbb
  have HMM := HML
  clear HS HV5 HR5 HCAP HL5 HB5 HOK HSP HPP HX146 HX136 HL6 HG6 HB7 HX147 HL7 HOV hk8 hk hng hs8 hst hbb y0 y1 y2 y3 yl npg1 HSML HPI HRO HV HML
  have HS := HST
  clear HST
  -- HS : Hid (St w8 ..), HMM : Hid (R.items.length ≤ _), HBB : Hid (Below B w w8)
  have hBl : B ≤ w8.heap.size := by have h1 := HS.out.rlow; have h2 := HS.out.rin; omega
  have HFIN : Hid (∀ w', Below w8.heap.size w8 w' → StepR w w' a rb B (m + 1) (.returned (.bool true))) := fun w' hb => ⟨rfl, StE.of HS.out HMM.out hb, HBB.out.trans (hb.mono hBl)⟩
  have HW1 := hide (fun W (hb : Below w8.heap.size w8 W) => when_any a _ _ W (hide (HS.out.sh.below hb)))
  have HW2 := hide (fun W (hb : Below w8.heap.size w8 W) => when_r _ _ _ _ bc lc ic' _ _ W (hide (HS.out.at_.below hb)))
  have HW3 := hide (fun W (hb : Below w8.heap.size w8 W) => waiting_any a _ _ vl W (hide (HS.out.sh.below hb)))
  have HW4 := hide (fun W (hb : Below w8.heap.size w8 W) => rwaiting_any _ _ _ _ bc lc ic' _ _ vl W (hide (HS.out.at_.below hb)))
  rw [HS.out.sim.when] at HW2
  rw [HS.out.sim.waiting] at HW4
  obtain ⟨tw, bw, HWV⟩ := whenV_pair (AS.when (S.offer t vl 0 0 [tag]).1)
  rw [HWV] at HW1 HW2
  unfold RSV at HW2 HW4
  generalize AS.waiting (S.offer t vl 0 0 [tag]).1 vl = wt at *
  have HV := hide HS.out.var
  have hrin := HS.out.rin
  clear HWV HS HMM HBB
  generalize (RS.bags R').length = nb at *
  generalize (RS.left R').length = nl at *
  generalize RS.clock R' = ck at *
  generalize (RS.items R').length = ni at *
  obtain ⟨x0, x1, x2, x3, xl⟩ := four_of HV.out
  go_wp2_with fail
  refine (HW1.out _ (Below.refl _ _)).mono ?_
  rintro e w' ⟨rfl, d, rfl⟩
  go_wp2_with fail
  refine (HW2.out _ (below_drewN (Below.refl _ _) d)).mono ?_
  rintro e wz ⟨rfl, hbz⟩
  have HBZ := hide ((below_drewN (Below.refl w8.heap.size w8) d).trans hbz)
  have hzl := HBZ.out.size
  have HVZ := hide (keep HV.out HBZ.out)
  clear hbz x0 x1 x2 x3 xl
  obtain ⟨x0, x1, x2, x3, xl⟩ := four_of HVZ.out
  have hrz : rb < wz.heap.size := by omega
  have HW3' := hide (fun s : Later wz => HW3.out s.w (HBZ.out.trans (s.below.mono hzl)))
  have HW4' := hide (fun s : Later wz => HW4.out s.w (HBZ.out.trans (s.below.mono hzl)))
  clear HW1 HW2 HW3 HW4
  go_wp2_with fail
  refine wp_region_later (W := wz) (by kernel_rfl) (by kernel_rfl) ?_
  iterate 20 (go_big_quiet_step ((first
    | (go_at_call 12; exact Later.call_same ((HW3'.out _).mono fun e w' h => ⟨h.1, h.2⟩))
    | (go_at_call 40; exact Later.call (HW4'.out _)))))
  refine wpQuiet_nil ?_
  rintro _ ⟨s, rfl⟩
  go_wp2_with fail
  go_ret
  exact HFIN.out _ (HBZ.out.trans (s.below.mono hzl))
end Go.Proofs.Ythahnliddoijoaa
