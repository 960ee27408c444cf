/-
  Offer.
-/
import Derived.Test.YthahnliddoijoaaWhen
namespace Go.Proofs.Ythahnliddoijoaa
open Go.RowKit
theorem AS.late_no {S : AS} {t : Int} (h : S.late t = false) : S.now ≤ t ∧ t ≤ 1073741824 := by unfold AS.late at h; simp at h; omega
theorem AS.ok_offer {S : AS} (h : S.ok) (t vl net seq : Int) (bs : List Int) : (S.offer t vl net seq bs).1.ok := by
  unfold AS.offer
  split
  · exact h
  · rename_i hc
    simp only [Bool.or_eq_true, Bool.not_eq_true', not_or, Bool.not_eq_false, Bool.not_eq_true] at hc
    have hl := AS.late_no hc.2
    have hh := hc.1
    unfold AS.has at hh
    simp only [Bool.and_eq_true, decide_eq_true_eq] at hh
    have hk : vl.toNat < S.qs.length := by omega
    have ht : 0 ≤ t ∧ t ≤ 1073741824 := ⟨by have := h.1.1; omega, hl.2⟩
    split
    · exact ⟨ht, h.2⟩
    · refine ⟨ht, fun i hi => ?_⟩
      unfold AS.put at hi ⊢
      simp only [List.length_set] at hi
      rw [AS.at_set S _ _ _ _ hk]
      split
      · exact h.2 _ hk
      · exact h.2 i hi
/-- The slice at A holds the bytes bs, outside of the blocks that F names. -/
def RB (w : World) (A : Option Addr) (n : Nat) (bs : List Int) (F : Nat → Prop) : Prop :=
  bs.length = n ∧ (0 < n → ∃ ad, A = some ad ∧ ¬ F ad.block ∧ ad.block < w.heap.size ∧ ∀ j v, (u8s bs)[j]? = some v → w.cell? (ad.add j) = some v)
theorem add_blk (ad : Addr) (j : Nat) : (ad.add j).block = ad.block := by unfold Addr.add; split <;> rfl
theorem RB.kept {w w' : World} {A : Option Addr} {n : Nat} {bs : List Int} {F G : Nat → Prop} (h : RB w A n bs F) (hk : Kept G w w') (hG : ∀ k, G k → F k) : RB w' A n bs F :=
  ⟨h.1, fun hn => by
    obtain ⟨ad, h1, h2, h3, h4⟩ := h.2 hn
    exact ⟨ad, h1, h2, Nat.lt_of_lt_of_le h3 hk.size, fun j v hv => (hk.cell (p := ad.add j) (by rw [add_blk]; exact h3) (by rw [add_blk]; exact fun hg => h2 (hG _ hg))).trans (h4 j v hv)⟩⟩
theorem RB.reads {w : World} {A : Option Addr} {n : Nat} {bs : List Int} {F : Nat → Prop} (h : RB w A n bs F) : Reads w w.heap.size 1 A n (u8s bs) := by
  refine ⟨by rw [u8s_len, h.1, Nat.mul_one], fun hn => ?_⟩
  obtain ⟨ad, h1, _, h3, h4⟩ := h.2 hn
  exact ⟨ad, h1, h3, h4⟩
def upG (G : Nat → Nat → Nat) (k m g : Nat) : Nat → Nat → Nat := fun i j => if i = k ∧ j = m then g else G i j
theorem AS.at_put {S : AS} {k : Nat} (hk : k < S.qs.length) (x : It) (i : Nat) : (S.put k x).at i = if i = k then { (S.at k) with items := (S.at k).items ++ [x] } else S.at i := AS.at_set S _ k _ i hk
theorem AS.len_put (S : AS) (k : Nat) (x : It) : (S.put k x).qs.length = S.qs.length := by simp [AS.put]
theorem SH.put {w w' : World} {a : Nat} {S : AS} {P : Nat → Prop} {A : Option Addr} {b cap : Nat} {D : Nat → Nat → Value} {G : Nat → Nat → Nat} (h : SH w a S P A b cap D G) (k : Nat) (hk : k < S.qs.length) (x : It) (g : Nat)
    (hg : w.heap[g]? = some (.cells (u8s x.bytes).toArray 5 (0, 0))) (hgP : ¬ P g) (hsq : SQ w' A b S.qs.length (S.put k x) (upD D k (S.at k).items.length (.slice (some ⟨g, 0, none⟩) x.bytes.length x.bytes.length))) (hkp : Kept (· = b) w w') :
    SH w' a (S.put k x) (fun q => P q ∨ q = g) A b cap (upD D k (S.at k).items.length (.slice (some ⟨g, 0, none⟩) x.bytes.length x.bytes.length)) (upG G k (S.at k).items.length g) := by
  have hn : 0 < S.qs.length := by omega
  have hb := h.pb hn
  have hgb : g ≠ b := by rintro rfl; exact hgP hb.1
  have hga : g ≠ a := by rintro rfl; exact hgP h.pa
  have hl := AS.len_put S k x
  have hlen : ∀ i, i ≠ k → ((S.put k x).at i).items = (S.at i).items := fun i hi => by rw [AS.at_put hk, if_neg hi]
  have hlenk : ((S.put k x).at k).items = (S.at k).items ++ [x] := by rw [AS.at_put hk, if_pos rfl]
  have old : ∀ i j y, i < S.qs.length → (S.at i).items[j]? = some y → w'.heap[G i j]? = some (.cells (u8s y.bytes).toArray 5 (0, 0)) ∧ P (G i j) ∧ G i j ≠ a ∧ G i j ≠ b := fun i j y hi hy => by
    obtain ⟨_, h2, h3, h4, h5⟩ := h.dat i j y hi hy
    exact ⟨(hkp.block _ (blk_in h2) h5).trans h2, h3, h4, h5⟩
  refine ⟨?_, by rw [hl]; exact hsq, fun i j y hi hy => ?_, fun i j i' j' hi hi' hj hj' he => ?_, .inl h.pa, fun _ => ⟨.inl hb.1, hb.2⟩, ⟨h.ok.1, fun i hi => ?_⟩, fun q hq => ?_⟩
  · rw [hl]; exact (hkp.block a (blk_in h.head) (fun e => hb.2 e.symm)).trans h.head
  · rw [hl] at hi
    unfold upD upG
    by_cases hik : i = k
    · subst hik
      rw [hlenk] at hy
      by_cases hjm : j < (S.at i).items.length
      · rw [List.getElem?_append_left hjm] at hy
        rw [if_neg (by omega), if_neg (by omega)]
        obtain ⟨h1, -⟩ := h.dat i j y hi hy
        obtain ⟨h2, h3, h4⟩ := old i j y hi hy
        exact ⟨h1, h2, .inl h3, h4⟩
      · have hjl := (List.getElem?_eq_some_iff.1 hy).1
        obtain rfl : j = (S.at i).items.length := by simp at hjl; omega
        rw [List.getElem?_append_right (Nat.le_refl _), Nat.sub_self] at hy
        simp only [List.getElem?_cons_zero, Option.some.injEq] at hy
        subst hy
        rw [if_pos ⟨rfl, rfl⟩, if_pos ⟨rfl, rfl⟩]
        exact ⟨rfl, (hkp.block g (blk_in hg) hgb).trans hg, .inr rfl, hga, hgb⟩
    · rw [hlen i hik] at hy
      rw [if_neg (by omega), if_neg (by omega)]
      obtain ⟨h1, -⟩ := h.dat i j y hi hy
      obtain ⟨h2, h3, h4⟩ := old i j y hi hy
      exact ⟨h1, h2, .inl h3, h4⟩
  · rw [hl] at hi hi'
    have side : ∀ i j, i < S.qs.length → j < ((S.put k x).at i).items.length → ¬ (i = k ∧ j = (S.at k).items.length) → j < (S.at i).items.length ∧ P (G i j) := fun i j hi hj hne => by
      have hj2 : j < (S.at i).items.length := by
        by_cases hik : i = k
        · subst hik; rw [hlenk] at hj; simp at hj; omega
        · rw [hlen i hik] at hj; exact hj
      exact ⟨hj2, (h.dat i j _ hi (List.getElem?_eq_getElem hj2)).2.2.1⟩
    unfold upG at he
    by_cases h1 : i = k ∧ j = (S.at k).items.length <;> by_cases h2 : i' = k ∧ j' = (S.at k).items.length
    · omega
    · rw [if_pos h1, if_neg h2] at he
      exact absurd (he ▸ (side i' j' hi' hj' h2).2) hgP
    · rw [if_neg h1, if_pos h2] at he
      exact absurd (he ▸ (side i j hi hj h1).2) hgP
    · rw [if_neg h1, if_neg h2] at he
      exact h.apart i j i' j' hi hi' (side i j hi hj h1).1 (side i' j' hi' hj' h2).1 he
  · rw [hl] at hi
    rw [AS.at_put hk]
    split
    · exact h.ok.2 k hk
    · exact h.ok.2 i hi
  · rcases hq with hq | rfl
    · exact Nat.lt_of_lt_of_le (h.inn q hq) hkp.size
    · exact Nat.lt_of_lt_of_le (blk_in hg) hkp.size
/-- What Offer leaves. -/
structure OffAt (w w' : World) (a : Nat) (S' : AS) (P : Nat → Prop) : Prop where
  kept : Kept P w w'
  at_ : ∃ P' : Nat → Prop, SAt w' a S' P' ∧ ∀ k, P' k → P k ∨ (w.heap.size ≤ k ∧ k < w'.heap.size)
set_option maxRecDepth 100000 in
set_option maxHeartbeats 2000000 in
theorem offer_any (a : Nat) (S : AS) (P : Nat → Prop) (t vl net seq : Int) (dA : Option Addr) (n dc : Nat) (bs : List Int) (w : World) (h : Hid (SAt w a S P)) (hn : n ≤ 281474976710656) (hr : Hid (RB w dA n bs P)) :
    Calls Try.prog 7 #[.pointer (some ⟨a, 0, none⟩), .int .i64 t, .agg #[.int .i64 vl, .int .i64 net, .int .i64 seq, .slice dA n dc]] w fun e w' => e = .returned (.int .i64 (S.offer t vl net seq bs).2) ∧
      OffAt w w' a (S.offer t vl net seq bs).1 P := by
  obtain ⟨A, b, cap, D, G, hs⟩ := h.out
  obtain ⟨x0, x1, x2, x3⟩ := hs.cells
  have HS := hide hs
  have HO : Hid (S.offer t vl net seq bs = if !S.has vl || S.late t then (S, 2) else if (S.at vl.toNat).items.length = 16 then ({ S with now := t }, 4) else (({ S with now := t } : AS).put vl.toNat ⟨t, vl, net, seq, bs⟩, 0)) := rfl
  have hsame : ∀ w', Below w.heap.size w w' → OffAt w w' a S P := fun w' hb => ⟨.of_below hb, P, h.out.below hb, fun k hk => .inl hk⟩
  have HM := hide hsame
  clear hs hsame h
  have haw : a < w.heap.size := cell_lt x0
  have HH := hide (fun w h => has_any a A S.qs.length cap vl w h)
  have HE2 : Hid (S.has vl = (decide (0 ≤ vl) && decide (vl < S.qs.length))) := rfl
  rw [← HE2.out] at HH
  cases hv : S.has vl
  · rw [hv] at HH HO
    clear hv HE2
    go_enter Try.func7, Try.ntmps7
    go_wp2_with fail
    refine (HH.out _ (by simp [World.cell?_alloc_past, haw, x1])).mono ?_
    rintro e w1 ⟨rfl, rfl⟩
    go_wp2_with fail
    go_ret
    exact ⟨by rw [HO.out]; rfl, by rw [HO.out]; exact HM.out _ ((Below.refl _ _).alloc (Nat.le_refl _) _)⟩
  · rw [hv] at HH HO
    rw [HE2.out] at hv
    simp only [Bool.and_eq_true, decide_eq_true_eq] at hv
    obtain ⟨k, rfl⟩ := Int.eq_ofNat_of_zero_le hv.1
    have hk : k < S.qs.length := by omega
    clear hv HE2
    rw [Int.toNat_natCast] at HO
    have HL : Hid (S.late t = (decide (t < S.now) || decide (1073741824 < t))) := rfl
    cases hlt : S.late t
    · rw [hlt] at HO HL
      have hset := hide (fun w h hf => set_fine a S.now t w h hf (hide HL.out.symm))
      obtain ⟨l1, l2⟩ := AS.late_no hlt
      have t0 : 0 ≤ t := by have := HS.out.ok.1.1; omega
      have hA : A = some ⟨b, 0, none⟩ := by rcases HS.out.sq.at_ with h | h; (omega); exact h
      subst hA
      clear hlt HL l1
      go_enter Try.func7, Try.ntmps7
      go_wp2_with fail
      refine (HH.out _ (by simp [World.cell?_alloc_past, haw, x1])).mono ?_
      rintro e w1 ⟨rfl, rfl⟩
      go_wp2_with fail
      refine (hset.out _ (by simp [World.cell?_alloc_past, haw, x0]) ((((Below.refl _ _).alloc (Nat.le_refl _) _).frozen (p := ⟨a, 0, none⟩) haw).trans x3)).mono ?_
      rintro e w1 ⟨rfl, rfl⟩
      have HK1 := (Kept.refl P w).alloc (.cells #[.int .i64 k, .int .i64 net, .int .i64 seq, .slice dA n dc] 33)
      have HS1 := hide ((HS.out.frame (F := fun _ => False) ((Kept.refl _ w).alloc (.cells #[.int .i64 k, .int .i64 net, .int .i64 seq, .slice dA n dc] 33)) (fun _ _ h => h)).set t t0 l2)
      have HK2 := hide (HK1.setCell (p := ⟨a, 0, none⟩) (.inl HS.out.pa) (.int .i64 t))
      have hbx : ((w.alloc (.cells #[.int .i64 k, .int .i64 net, .int .i64 seq, .slice dA n dc] 33)).setCell ⟨a, 0, none⟩ (.int .i64 t)).heap[w.heap.size]? = some (.cells #[.int .i64 k, .int .i64 net, .int .i64 seq, .slice dA n dc] 33) :=
        (Below.heap_setCell _ _ _ _ (by show w.heap.size ≠ a; omega)).trans (heap_alloc_new w _)
      generalize hW2 : (w.alloc (.cells #[.int .i64 k, .int .i64 net, .int .i64 seq, .slice dA n dc] 33)).setCell ⟨a, 0, none⟩ (.int .i64 t) = W2 at *
      have HR2 := hide (hr.out.kept HK2.out (fun _ h => h))
      clear hset HH HM HK1 x0 x1 x2 x3 hW2
      obtain ⟨y0, y1, y2, y3⟩ := HS1.out.cells
      have z0 := cell_of_row W2 w.heap.size 0 _ _ _ hbx
      have z1 := cell_of_row W2 w.heap.size 1 _ _ _ hbx
      have z2 := cell_of_row W2 w.heap.size 2 _ _ _ hbx
      have z3 := cell_of_row W2 w.heap.size 3 _ _ _ hbx
      simp only [List.getElem?_toArray, List.getElem?_cons_succ, List.getElem?_cons_zero] at z0 z1 z2 z3
      have hq := hide (HS1.out.sq.cell k hk)
      have hm := hq.out.many
      clear hbx y0 y2 y3
      have hk0 : (0 : Int) ≤ (k : Int) := by omega
      have hk1 : (k : Int) < (S.qs.length : Int) := by omega
      have hkn : ((k : Int)).toNat = k := by omega
      have hsl : ({ S with now := t } : AS).qs.length = S.qs.length := rfl
      go_wp2_with fail
      go_quiet (fail)
      have HS3 := hide (HS1.out.frame (F := fun _ => False) ((Kept.refl _ W2).drewN nq) (fun _ _ h => h))
      have HK3 := hide (HK2.out.drewN nq)
      have HR3 := hide (HR2.out.kept ((Kept.refl P W2).drewN nq) (fun _ h => h))
      have u0 : (W2.drewN nq).cell? ⟨w.heap.size, 0, none⟩ = _ := z0
      have u1 : (W2.drewN nq).cell? ⟨w.heap.size, 1, none⟩ = _ := z1
      have u2 : (W2.drewN nq).cell? ⟨w.heap.size, 2, none⟩ = _ := z2
      have u3 : (W2.drewN nq).cell? ⟨w.heap.size, 3, none⟩ = _ := z3
      have hm3 : (W2.drewN nq).cell? ⟨b, k * 84 + 81, none⟩ = some (.int .i64 (S.at k).items.length) := hm
      clear y1 z0 z1 z2 z3 hm hq HR2 HK2 HS1
      generalize W2.drewN nq = W3 at *
      clear W2
      by_cases hf : (S.at k).items.length = 16
      · have hb16 : (((S.at k).items.length : Int) == 16) = true := by rw [hf]; rfl
        have HF := hide hf
        clear hf
        go_wp2_with fail
        go_ret
        rw [HO.out]
        exact ⟨by rw [if_neg (by simp), if_pos HF.out]; rfl, by rw [if_neg (by simp), if_pos HF.out]; exact ⟨HK3.out, P, ⟨_, _, _, _, _, HS3.out⟩, fun k hk => .inl hk⟩⟩
      · have hb16 : (((S.at k).items.length : Int) == 16) = false := by simp; omega
        have hlt : (S.at k).items.length < 16 := by have := (HS3.out.sq.cell k hk).few; have e : ({ S with now := t } : AS).at k = S.at k := rfl; rw [e] at this; omega
        have HF := hide hf
        have HLT := hide hlt
        clear hf hlt
        go_wp2_with fail
        refine (copied_any k net seq dA n dc bs W3 hn (hide HR3.out.1) (hide HR3.out.reads)).mono ?_
        rintro e w4 ⟨g, rfl, hg1, hg2, hb4⟩
        have HS4 := hide (HS3.out.frame (F := fun _ => False) (.of_below hb4) (fun _ _ h => h))
        have HK4 := hide (HK3.out.trans (.of_below hb4))
        have Hg2 := hide hg2
        have hPg : Hid (¬ P g) := fun hp => by have := HS3.out.inn g hp; omega
        clear hb4 hg2 u0 u1 u2 u3 hm3 HR3
        go_wp2_with fail
        refine (put_any HS4.out.sq k hk HLT.out ⟨t, k, net, seq, bs⟩ (some ⟨g, 0, none⟩) n n).mono ?_
        rintro e w5 ⟨rfl, hsq, hk5⟩
        have HSQ := hide hsq
        have HK5 := hide hk5
        clear hsq hk5
        go_wp2_with fail
        go_ret
        rw [HO.out]
        refine ⟨by rw [if_neg (by simp), if_neg HF.out]; rfl, ?_⟩
        rw [if_neg (by simp), if_neg HF.out]
        have hnl : n = bs.length := hr.out.1.symm
        have hfin := HS4.out.put k hk ⟨t, k, net, seq, bs⟩ g Hg2.out hPg.out (by rw [← hnl]; exact HSQ.out) HK5.out
        refine ⟨HK4.out.trans2 HK5.out (fun i _ hi => by subst hi; exact (HS4.out.pb (by show 0 < S.qs.length; omega)).1), _, ⟨_, _, _, _, _, hfin⟩, fun q hq => ?_⟩
        rcases hq with hq | rfl
        · exact .inl hq
        · exact .inr ⟨Nat.le_trans HK3.out.size hg1, Nat.lt_of_lt_of_le (blk_in Hg2.out) HK5.out.size⟩
    · rw [hlt] at HO HL
      have hset := hide (fun w h => set_late a S.now t w h (hide HL.out.symm))
      clear hlt HL
      go_enter Try.func7, Try.ntmps7
      go_wp2_with fail
      refine (HH.out _ (by simp [World.cell?_alloc_past, haw, x1])).mono ?_
      rintro e w1 ⟨rfl, rfl⟩
      go_wp2_with fail
      refine (hset.out _ (by simp [World.cell?_alloc_past, haw, x0])).mono ?_
      rintro e w1 ⟨rfl, rfl⟩
      go_wp2_with fail
      go_ret
      exact ⟨by rw [HO.out]; rfl, by rw [HO.out]; exact HM.out _ ((Below.refl _ _).alloc (Nat.le_refl _) _)⟩
end Go.Proofs.Ythahnliddoijoaa
