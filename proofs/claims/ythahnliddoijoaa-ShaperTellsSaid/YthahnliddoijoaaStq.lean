/-
  ShaperTells: one operation: Next.
-/
import Derived.Test.YthahnliddoijoaaStp
import Derived.Test.YthahnliddoijoaaRefN
namespace Go.Proofs.Ythahnliddoijoaa
open Go.RowKit
theorem next_err {S : AS} {t : Int} {y : It} (h : (S.next t).2.1 = some y) : (S.next t).2.2 = 0 := by
  unfold AS.next at h ⊢
  split
  · rename_i hl; rw [if_pos hl] at h; cases h
  · rename_i hl
    rw [if_neg hl] at h
    split
    · rfl
    · rename_i j hj
      split <;> rfl
theorem next_len {R : RS} {t : Int} : (R.next t).1.items.length ≤ R.items.length := by
  unfold RS.next
  split
  · exact Nat.le_refl _
  · split
    · exact Nat.le_refl _
    · split
      · exact Nat.le_refl _
      · exact List.length_eraseIdx_le _ _
theorem next_sub {R : RS} {t : Int} : ∀ x ∈ (R.next t).1.items, x ∈ R.items := by
  unfold RS.next
  split
  · exact fun _ h => h
  · split
    · exact fun _ h => h
    · split
      · exact fun _ h => h
      · exact fun x h => List.mem_of_mem_eraseIdx h
theorem next_mem {R : RS} {t : Int} {y : It} (h : (R.next t).2.1 = some y) : y ∈ R.items := by
  unfold RS.next at h
  split at h
  · cases h
  · split at h
    · cases h
    · split at h
      · cases h
      · rename_i x hx
        injection h with h
        subst h
        exact List.mem_of_getElem? hx
theorem set_row4 {w : World} {b : Nat} {t : TypeId} {c0 c1 c2 c3 d0 d1 d2 d3 : Value} (h : w.heap[b]? = some (.cells #[c0, c1, c2, c3] t (0, 0))) :
    ((((w.setCell ⟨b, 0, none⟩ d0).setCell ⟨b, 1, none⟩ d1).setCell ⟨b, 2, none⟩ d2).setCell ⟨b, 3, none⟩ d3).heap[b]? = some (.cells #[d0, d1, d2, d3] t (0, 0)) :=
  set_blk (set_blk (set_blk (set_blk h)))
theorem set_kept4 (w : World) (b : Nat) (d0 d1 d2 d3 : Value) : Kept (· = b) w ((((w.setCell ⟨b, 0, none⟩ d0).setCell ⟨b, 1, none⟩ d1).setCell ⟨b, 2, none⟩ d2).setCell ⟨b, 3, none⟩ d3) :=
  ((((Kept.refl (· = b) w).setCell (p := ⟨b, 0, none⟩) (.inl rfl) _).setCell (p := ⟨b, 1, none⟩) (.inl rfl) _).setCell (p := ⟨b, 2, none⟩) (.inl rfl) _).setCell (p := ⟨b, 3, none⟩) (.inl rfl) _
/-- Behind the reference's call: the state stored, the shaper as it was. -/
structure Mid (w : World) (a rb B : Nat) (S : AS) (R' : RS) (P : Nat → Prop) (bA lA iA : Option Addr) (bc lc ic : Nat) (ps : List (It × Value)) : Prop where
  sh : SAt w a S P
  var : w.heap[rb]? = some (.cells #[.slice bA R'.bags.length bc, .int .i64 R'.clock, .slice lA R'.left.length lc, .slice iA R'.items.length ic] 45 (0, 0))
  at_ : RAt w R' bA lA iA ps (fun k => P k ∨ k = rb)
  cap : R'.items.length ≤ ic
theorem Mid.of {w w1 : World} {a rb B : Nat} {S : AS} {R : RS} {P : Nat → Prop} {bA lA iA lA' iA' bA0 : Option Addr} {bc lc ic bc0 lc' ic' : Nat} {ps ps' : List (It × Value)} {R' : RS} (h : St w a rb B S R P bA lA iA bc lc ic ps) (hb : Below w.heap.size w w1)
    (hr : RAt w1 R' bA0 lA' iA' ps' (fun k => P k ∨ k = rb)) (hc : R'.items.length ≤ ic') :
    Mid ((((w1.setCell ⟨rb, 0, none⟩ (.slice bA0 R'.bags.length bc0)).setCell ⟨rb, 1, none⟩ (.int .i64 R'.clock)).setCell ⟨rb, 2, none⟩ (.slice lA' R'.left.length lc')).setCell ⟨rb, 3, none⟩ (.slice iA' R'.items.length ic')) a rb B S R' P bA0 lA' iA' bc0 lc' ic' ps' := by
  have hk := set_kept4 w1 rb (.slice bA0 R'.bags.length bc0) (.int .i64 R'.clock) (.slice lA' R'.left.length lc') (.slice iA' R'.items.length ic')
  exact ⟨(h.sh.below hb).frame hk (fun k hp e => h.rp (e ▸ hp)), set_row4 (keep h.var hb), hr.swap hk (fun k e => .inr e) (fun k hf => .inl hf), hc⟩
theorem Mid.below {w w' : World} {a rb B : Nat} {S : AS} {R' : RS} {P : Nat → Prop} {bA lA iA : Option Addr} {bc lc ic : Nat} {ps : List (It × Value)} (h : Mid w a rb B S R' P bA lA iA bc lc ic ps) (hb : Below w.heap.size w w') : Mid w' a rb B S R' P bA lA iA bc lc ic ps :=
  ⟨h.sh.below hb, keep h.var hb, h.at_.below hb, h.cap⟩
theorem St.mid {w W W' : World} {a rb B : Nat} {S S' : AS} {R R' : RS} {P P' : Nat → Prop} {bA lA iA bA' lA' iA' : Option Addr} {bc lc ic bc' lc' ic' : Nat} {ps ps' : List (It × Value)} (h : St w a rb B S R P bA lA iA bc lc ic ps) (hm : Mid W a rb B S R' P bA' lA' iA' bc' lc' ic' ps')
    (hk : Kept P W W') (hs : SAt W' a S' P') (hP : ∀ k, P' k → P k) (hsim : Sim S' R') (hsm : ∀ x ∈ R'.items, x.bytes.length ≤ 1000) : St W' a rb B S' R' P' bA' lA' iA' bc' lc' ic' ps' :=
  ⟨hs, (hk.block rb (blk_in hm.var) h.rp).trans hm.var, hm.at_.swap hk (fun _ h => .inl h) (fun k hf => .inl (hf.imp (hP k) id)), hm.cap, hsim, fun hp => h.rp (hP _ hp), fun k hk => h.low k (hP k hk), h.rlow, sat_inn hs, hsm⟩
theorem bts_blk {w : World} {g : Nat} {bs : List Int} (h : w.heap[g]? = some (.cells (u8s bs).toArray 5 (0, 0))) : Bts w (some ⟨g, 0, none⟩) bs.length bs (fun _ => False) := by
  refine ⟨rfl, fun _ => ⟨g, 0, rfl, fun h => h, blk_in h, fun i z hz => ?_⟩⟩
  rw [Nat.zero_add, cell_of_row w g i _ _ _ h]
  unfold u8s
  simp [hz]
attribute [local go_sem] Later.cell
set_option maxRecDepth 100000 in
set_option maxHeartbeats 2000000 in
theorem step_next (a rb B m : Nat) (w : World) (h : Hid (StE w a rb B m)) (t vl tag : Int) :
    Calls Try.prog 18 #[.pointer (some ⟨a, 0, none⟩), .pointer (some ⟨rb, 0, none⟩), .int .i64 2, .int .i64 t, .int .i64 vl, .int .u8 tag] w fun e w' => StepR w w' a rb B (m + 1) e := by
  obtain ⟨S, R, P, bA, lA, iA, bc, lc, ic, ps, hs, hm⟩ := h.out
  have HS := hide hs
  have HM := hide hm
  have hrin := HS.out.rin
  have HF := hide (fun k (hk : P k ∨ k = rb) => show k < w.heap.size from hk.elim (hs.pin k) (fun e => by rw [e]; exact hrin))
  have HRN := hide (rnext_any S R hs.sim bA lA iA bc lc ic ps (fun k => P k ∨ k = rb) t w (hide hs.at_) (hide hs.cap) HF)
  have HSIM := hide (hs.sim.next t).2
  have HSML := hide (fun x (hx : x ∈ (R.next t).1.items) => hs.sml x (next_sub x hx))
  have HMEM := hide (fun y (hy : (S.next t).2.1 = some y) => hs.sml y (next_mem (by rw [(hs.sim.next t).1]; exact hy)))
  rw [(hs.sim.next t).1] at HRN
  have HML := hide (Nat.le_trans (next_len (R := R) (t := t)) hm)
  have HV := hide hs.var
  clear hs h hm
  unfold RSV at HRN
  generalize (R.next t).1 = R' at *
  generalize R.bags.length = nb at HRN HV
  generalize R.left.length = nl at HRN HV
  generalize R.clock = ck at HRN HV
  generalize R.items.length = ni at HRN HV
  obtain ⟨x0, x1, x2, x3, xl⟩ := four_of HV.out
  go_enter Try.func18, Try.ntmps18
  go_wp2_with fail
  refine HRN.out.mono ?_
  rintro e w1 ⟨lA', lc', iA', ic', ps', dA, dc, rfl, hr, hbt, hb1, hcap⟩
  rcases ho : (S.next t).2.1 with _ | y
  · rw [ho] at hbt
    simp only [Option.getD_none, Option.isSome_none, itZero, List.length_nil] at hbt ⊢
    have HO := hide ho
    clear ho
    unfold RSV frameV
    have HML2 := hide (Nat.le_trans HML.out (Nat.le_succ m))
    have HR := hide hr
    have HBT := hide hbt
    have HB1 := hide hb1
    have HCAP := hide hcap
    have hz1 := hb1.size
    have HV1 := hide (keep HV.out hb1)
    clear hr hbt hb1 hcap x0 x1 x2 x3 xl
    obtain ⟨x0, x1, x2, x3, xl⟩ := four_of HV1.out
    have f0 := frozen_of_row w1 rb 0 _ _ HV1.out
    have f1 := frozen_of_row w1 rb 1 _ _ HV1.out
    have f2 := frozen_of_row w1 rb 2 _ _ HV1.out
    have f3 := frozen_of_row w1 rb 3 _ _ HV1.out
    have hr1 : rb < w1.heap.size := by omega
    have n1 : ¬ w1.heap.size = rb := by omega
    have n2 : ¬ rb = w1.heap.size := by omega
    have n3 : ¬ w1.heap.size + 1 = rb := by omega
    have n4 : ¬ rb = w1.heap.size + 1 := by omega
    -- what holds behind the store
    have HMD := hide (Mid.of (bc0 := bc) (lc' := lc') HS.out HB1.out HR.out HCAP.out)
    have hkA := set_kept4 w1 rb (.slice bA R'.bags.length bc) (.int .i64 R'.clock) (.slice lA' R'.left.length lc') (.slice iA' R'.items.length ic')
    have HBT2 := hide (HBT.out.swap (F' := fun k => P k ∨ k = rb) hkA (fun k e => .inr e) (fun k hf => .inl hf))
    have hBl : B ≤ w.heap.size := by have := HS.out.rlow; omega
    have hrl := HS.out.rlow
    have HBW := hide (((((HB1.out.mono hBl).setCell (p := ⟨rb, 0, none⟩) hrl (.slice bA R'.bags.length bc)).setCell (p := ⟨rb, 1, none⟩) hrl (.int .i64 R'.clock)).setCell (p := ⟨rb, 2, none⟩) hrl (.slice lA' R'.left.length lc')).setCell (p := ⟨rb, 3, none⟩) hrl (.slice iA' R'.items.length ic'))
    have hVs : w1.heap.size = ((((w1.setCell ⟨rb, 0, none⟩ (.slice bA R'.bags.length bc)).setCell ⟨rb, 1, none⟩ (.int .i64 R'.clock)).setCell ⟨rb, 2, none⟩ (.slice lA' R'.left.length lc')).setCell ⟨rb, 3, none⟩ (.slice iA' R'.items.length ic')).heap.size := by simp [World.setCell]
    have HVS := hide hVs
    clear hkA hVs HRN
    go_wp2_with fail
    generalize (((w1.setCell ⟨rb, 0, none⟩ (.slice bA R'.bags.length bc)).setCell ⟨rb, 1, none⟩ (.int .i64 R'.clock)).setCell ⟨rb, 2, none⟩ (.slice lA' R'.left.length lc')).setCell ⟨rb, 3, none⟩ (.slice iA' R'.items.length ic') = V at *
    have hVs := HVS.out
    rw [hVs]
    clear x0 x1 x2 x3 xl f0 f1 f2 f3 n1 n2 n3 n4
    have hbA : Below V.heap.size V ((V.alloc (.cells #[.slice bA R'.bags.length bc, .int .i64 R'.clock, .slice lA' R'.left.length lc', .slice iA' R'.items.length ic'] 45)).alloc (.cells #[.int .i64 0, .int .i64 0, .int .i64 0, .slice dA 0 dc] 33)) := ((Below.refl _ _).alloc (Nat.le_refl _) _).alloc (by simp) _
    have h18 := heap_alloc_new (V.alloc (.cells #[.slice bA R'.bags.length bc, .int .i64 R'.clock, .slice lA' R'.left.length lc', .slice iA' R'.items.length ic'] 45)) (.cells #[.int .i64 0, .int .i64 0, .int .i64 0, .slice dA 0 dc] 33)
    rw [World.size_alloc] at h18
    have HX18 := hide h18
    have HMD3 := hide (HMD.out.below hbA)
    have HBT3 := hide (HBT2.out.swap (F' := fun k => P k ∨ k = rb) (G := fun _ => False) (.of_below hbA) (fun k e => e.elim) (fun k hf => .inl hf))
    have hBV : B ≤ V.heap.size := by rw [← hVs]; omega
    have HBW3 := hide (HBW.out.trans (hbA.mono hBV))
    have hz3 : V.heap.size + 2 ≤ ((V.alloc (.cells #[.slice bA R'.bags.length bc, .int .i64 R'.clock, .slice lA' R'.left.length lc', .slice iA' R'.items.length ic'] 45)).alloc (.cells #[.int .i64 0, .int .i64 0, .int .i64 0, .slice dA 0 dc] 33)).heap.size := by simp
    clear h18 hbA HMD HBT2 HBW HR HBT HB1 HV1 hVs
    generalize (V.alloc (.cells #[.slice bA R'.bags.length bc, .int .i64 R'.clock, .slice lA' R'.left.length lc', .slice iA' R'.items.length ic'] 45)).alloc (.cells #[.int .i64 0, .int .i64 0, .int .i64 0, .slice dA 0 dc] 33) = W3 at *
    have hw3 : w.heap.size ≤ V.heap.size := by rw [← HVS.out]; omega
    have hPV : Hid (∀ k, P k → k < w.heap.size) := HS.out.pin
    have np : Hid (¬ P (V.heap.size + 1)) := fun hp => by have := hPV.out _ hp; omega
    clear HVS
    refine (next_no a S P t W3 (hide HMD3.out.sh) HO).mono ?_
    rintro e w4 ⟨rfl, hs4, hk4⟩
    unfold zeroFrame
    have HS4 := hide hs4
    have HK4 := hide hk4
    clear hs4 hk4
    have HX4 := hide ((HK4.out.block _ (by omega) np.out).trans HX18.out)
    have hz4 := HK4.out.size
    obtain ⟨x0, x1, x2, x3, xl⟩ := four_of HX4.out
    have HBT4 := hide (HBT3.out.swap (F' := fun _ => False) (G := P) HK4.out (fun k e => .inl e) (fun k hf => hf.elim))
    have hb5 := (Below.refl w4.heap.size w4).alloc (Nat.le_refl _) (.cells #[.int .i64 0, .int .i64 0, .int .i64 0, .slice none 0 0] 33)
    have HB5 := hide hb5
    have HSF := hide (fun W (hb : Below w4.heap.size w4 W) => sameFrame_nums 0 0 0 dA none 0 0 dc 0 [] [] (fun _ => False) (fun _ => False) W (by omega) (by omega) (hide (HBT4.out.swap (F' := fun _ => False) (G := fun _ => False) (.of_below hb) (fun k e => e.elim) (fun k hf => hf.elim))) (hide (bts_nil W _)))
    have HOV := hide (fun W => overFrame_nil W)
    unfold frameV at HOV
    clear hb5
    go_wp2_with fail
    refine (HSF.out _ HB5.out).mono ?_
    rintro e w5 ⟨rfl, hb6⟩
    have HB6 := hide (HB5.out.trans (hb6.mono (by simp)))
    have HX6 := hide (keep (heap_alloc_new w4 (.cells #[.int .i64 0, .int .i64 0, .int .i64 0, .slice none 0 0] 33)) hb6)
    obtain ⟨y0, y1, y2, y3, yl⟩ := four_of HX6.out
    clear hb6 x0 x1 x2 x3 xl
    go_wp2_with fail
    refine (HOV.out _).mono ?_
    rintro e w6 ⟨rfl, hk6⟩
    have hk : Kept P W3 w6 := (HK4.out.trans (.of_below HB6.out)).trans (hk6.mono (fun _ h => h.elim))
    have hs6 := (HS4.out.below HB6.out).frame hk6 (fun _ _ h => h)
    have hst := St.mid HS.out HMD3.out hk hs6 (fun _ h => h) HSIM.out HSML.out
    have hbb := HBW3.out.trans (hk.below (B := B) (by omega) (fun i hi hp => by have := HS.out.low i hp; omega))
    have HST := hide hst
    have HBB := hide hbb
    have HMM := HML2
    clear HSML HMEM HS HMD3 HK4 HS4 HX4 HBT4 HB5 HSF HOV HB6 HX6 y0 y1 y2 y3 yl hk6 hk hs6 hst hbb HBT3 HX18 HBW3 HCAP HM HML HML2 HF HV
    have HS := HST
    clear HST
    -- HS : Hid (St w6 ..), HMM : Hid (R.items.length ≤ _), HBB : Hid (Below B w w6)
    have hBl : B ≤ w6.heap.size := by have h1 := HS.out.rlow; have h2 := HS.out.rin; omega
    have HFIN : Hid (∀ w', Below w6.heap.size w6 w' → StepR w w' a rb B (m + 1) (.returned (.bool true))) := fun w' hb => ⟨rfl, StE.of HS.out HMM.out hb, HBB.out.trans (hb.mono hBl)⟩
    have HW1 := hide (fun W (hb : Below w6.heap.size w6 W) => when_any a _ _ W (hide (HS.out.sh.below hb)))
    have HW2 := hide (fun W (hb : Below w6.heap.size w6 W) => when_r _ _ _ _ bc lc' ic' _ _ W (hide (HS.out.at_.below hb)))
    have HW3 := hide (fun W (hb : Below w6.heap.size w6 W) => waiting_any a _ _ vl W (hide (HS.out.sh.below hb)))
    have HW4 := hide (fun W (hb : Below w6.heap.size w6 W) => rwaiting_any _ _ _ _ bc lc' ic' _ _ vl W (hide (HS.out.at_.below hb)))
    rw [HS.out.sim.when] at HW2
    rw [HS.out.sim.waiting] at HW4
    obtain ⟨tw, bw, HWV⟩ := whenV_pair (AS.when (S.next t).1)
    rw [HWV] at HW1 HW2
    unfold RSV at HW2 HW4
    generalize AS.waiting (S.next t).1 vl = wt at *
    have HV := hide HS.out.var
    have hrin := HS.out.rin
    clear HWV HS HMM HBB
    generalize (RS.bags R').length = nb at *
    generalize (RS.left R').length = nl at *
    generalize RS.clock R' = ck at *
    generalize (RS.items R').length = ni at *
    obtain ⟨x0, x1, x2, x3, xl⟩ := four_of HV.out
    go_wp2_with fail
    refine (HW1.out _ (Below.refl _ _)).mono ?_
    rintro e w' ⟨rfl, d, rfl⟩
    go_wp2_with fail
    refine (HW2.out _ (below_drewN (Below.refl _ _) d)).mono ?_
    rintro e wz ⟨rfl, hbz⟩
    have HBZ := hide ((below_drewN (Below.refl w6.heap.size w6) d).trans hbz)
    have hzl := HBZ.out.size
    have HVZ := hide (keep HV.out HBZ.out)
    clear hbz x0 x1 x2 x3 xl
    obtain ⟨x0, x1, x2, x3, xl⟩ := four_of HVZ.out
    have hrz : rb < wz.heap.size := by omega
    have HW3' := hide (fun s : Later wz => HW3.out s.w (HBZ.out.trans (s.below.mono hzl)))
    have HW4' := hide (fun s : Later wz => HW4.out s.w (HBZ.out.trans (s.below.mono hzl)))
    clear HW1 HW2 HW3 HW4
    go_wp2_with fail
    refine wp_region_later (W := wz) (by kernel_rfl) (by kernel_rfl) ?_
    iterate 20 (go_big_quiet_step ((first
      | (go_at_call 12; exact Later.call_same ((HW3'.out _).mono fun e w' h => ⟨h.1, h.2⟩))
      | (go_at_call 40; exact Later.call (HW4'.out _)))))
    refine wpQuiet_nil ?_
    rintro _ ⟨s, rfl⟩
    go_wp2_with fail
    go_ret
    exact HFIN.out _ (HBZ.out.trans (s.below.mono hzl))
  · rw [ho] at hbt
    simp only [Option.getD_some, Option.isSome_some, next_err ho] at hbt ⊢
    have HO := hide ho
    clear ho
    obtain ⟨yt, yvl, ynet, yseq, yb⟩ := y
    simp only at hbt ⊢
    have hylen : yb.length ≤ 1000000 := Nat.le_trans (HMEM.out _ HO.out) (by decide)
    unfold RSV frameV
    have HML2 := hide (Nat.le_trans HML.out (Nat.le_succ m))
    have HR := hide hr
    have HBT := hide hbt
    have HB1 := hide hb1
    have HCAP := hide hcap
    have hz1 := hb1.size
    have HV1 := hide (keep HV.out hb1)
    clear hr hbt hb1 hcap x0 x1 x2 x3 xl
    obtain ⟨x0, x1, x2, x3, xl⟩ := four_of HV1.out
    have f0 := frozen_of_row w1 rb 0 _ _ HV1.out
    have f1 := frozen_of_row w1 rb 1 _ _ HV1.out
    have f2 := frozen_of_row w1 rb 2 _ _ HV1.out
    have f3 := frozen_of_row w1 rb 3 _ _ HV1.out
    have hr1 : rb < w1.heap.size := by omega
    have n1 : ¬ w1.heap.size = rb := by omega
    have n2 : ¬ rb = w1.heap.size := by omega
    have n3 : ¬ w1.heap.size + 1 = rb := by omega
    have n4 : ¬ rb = w1.heap.size + 1 := by omega
    -- what holds behind the store
    have HMD := hide (Mid.of (bc0 := bc) (lc' := lc') HS.out HB1.out HR.out HCAP.out)
    have hkA := set_kept4 w1 rb (.slice bA R'.bags.length bc) (.int .i64 R'.clock) (.slice lA' R'.left.length lc') (.slice iA' R'.items.length ic')
    have HBT2 := hide (HBT.out.swap (F' := fun k => P k ∨ k = rb) hkA (fun k e => .inr e) (fun k hf => .inl hf))
    have hBl : B ≤ w.heap.size := by have := HS.out.rlow; omega
    have hrl := HS.out.rlow
    have HBW := hide (((((HB1.out.mono hBl).setCell (p := ⟨rb, 0, none⟩) hrl (.slice bA R'.bags.length bc)).setCell (p := ⟨rb, 1, none⟩) hrl (.int .i64 R'.clock)).setCell (p := ⟨rb, 2, none⟩) hrl (.slice lA' R'.left.length lc')).setCell (p := ⟨rb, 3, none⟩) hrl (.slice iA' R'.items.length ic'))
    have hVs : w1.heap.size = ((((w1.setCell ⟨rb, 0, none⟩ (.slice bA R'.bags.length bc)).setCell ⟨rb, 1, none⟩ (.int .i64 R'.clock)).setCell ⟨rb, 2, none⟩ (.slice lA' R'.left.length lc')).setCell ⟨rb, 3, none⟩ (.slice iA' R'.items.length ic')).heap.size := by simp [World.setCell]
    have HVS := hide hVs
    clear hkA hVs HRN
    go_wp2_with fail
    generalize (((w1.setCell ⟨rb, 0, none⟩ (.slice bA R'.bags.length bc)).setCell ⟨rb, 1, none⟩ (.int .i64 R'.clock)).setCell ⟨rb, 2, none⟩ (.slice lA' R'.left.length lc')).setCell ⟨rb, 3, none⟩ (.slice iA' R'.items.length ic') = V at *
    have hVs := HVS.out
    rw [hVs]
    clear x0 x1 x2 x3 xl f0 f1 f2 f3 n1 n2 n3 n4
    have hbA : Below V.heap.size V ((V.alloc (.cells #[.slice bA R'.bags.length bc, .int .i64 R'.clock, .slice lA' R'.left.length lc', .slice iA' R'.items.length ic'] 45)).alloc (.cells #[.int .i64 yvl, .int .i64 ynet, .int .i64 yseq, .slice dA yb.length dc] 33)) := ((Below.refl _ _).alloc (Nat.le_refl _) _).alloc (by simp) _
    have h18 := heap_alloc_new (V.alloc (.cells #[.slice bA R'.bags.length bc, .int .i64 R'.clock, .slice lA' R'.left.length lc', .slice iA' R'.items.length ic'] 45)) (.cells #[.int .i64 yvl, .int .i64 ynet, .int .i64 yseq, .slice dA yb.length dc] 33)
    rw [World.size_alloc] at h18
    have HX18 := hide h18
    have HMD3 := hide (HMD.out.below hbA)
    have HBT3 := hide (HBT2.out.swap (F' := fun k => P k ∨ k = rb) (G := fun _ => False) (.of_below hbA) (fun k e => e.elim) (fun k hf => .inl hf))
    have hBV : B ≤ V.heap.size := by rw [← hVs]; omega
    have HBW3 := hide (HBW.out.trans (hbA.mono hBV))
    have hz3 : V.heap.size + 2 ≤ ((V.alloc (.cells #[.slice bA R'.bags.length bc, .int .i64 R'.clock, .slice lA' R'.left.length lc', .slice iA' R'.items.length ic'] 45)).alloc (.cells #[.int .i64 yvl, .int .i64 ynet, .int .i64 yseq, .slice dA yb.length dc] 33)).heap.size := by simp
    clear h18 hbA HMD HBT2 HBW HR HBT HB1 HV1 hVs
    generalize (V.alloc (.cells #[.slice bA R'.bags.length bc, .int .i64 R'.clock, .slice lA' R'.left.length lc', .slice iA' R'.items.length ic'] 45)).alloc (.cells #[.int .i64 yvl, .int .i64 ynet, .int .i64 yseq, .slice dA yb.length dc] 33) = W3 at *
    have hw3 : w.heap.size ≤ V.heap.size := by rw [← HVS.out]; omega
    have hPV : Hid (∀ k, P k → k < w.heap.size) := HS.out.pin
    have np : Hid (¬ P (V.heap.size + 1)) := fun hp => by have := hPV.out _ hp; omega
    clear HVS
    refine (next_yes a S P t _ W3 (hide HMD3.out.sh) HO).mono ?_
    rintro e w4 ⟨g, rfl, hpg, hg4, hs4, hk4⟩
    simp only at hg4
    have HS4 := hide hs4
    have HK4 := hide hk4
    have HG4 := hide hg4
    have hbg := hide (bts_blk hg4)
    have hgl := blk_in hg4
    clear hs4 hk4 hg4
    have HX4 := hide ((HK4.out.block _ (by omega) np.out).trans HX18.out)
    have hz4 := HK4.out.size
    obtain ⟨x0, x1, x2, x3, xl⟩ := four_of HX4.out
    have HBT4 := hide (HBT3.out.swap (F' := fun _ => False) (G := P) HK4.out (fun k e => .inl e) (fun k hf => hf.elim))
    have hb5 := (Below.refl w4.heap.size w4).alloc (Nat.le_refl _) (.cells #[.int .i64 yvl, .int .i64 ynet, .int .i64 yseq, .slice (some ⟨g, 0, none⟩) yb.length yb.length] 33)
    have HB5 := hide hb5
    have HSF := hide (fun W (hb : Below w4.heap.size w4 W) => sameFrame_nums yvl ynet yseq dA (some ⟨g, 0, none⟩) yb.length yb.length dc yb.length yb yb (fun _ => False) (fun _ => False) W (by omega) (by omega) (hide (HBT4.out.swap (F' := fun _ => False) (G := fun _ => False) (.of_below hb) (fun k e => e.elim) (fun k hf => hf.elim))) (hide (hbg.out.swap (F' := fun _ => False) (G := fun _ => False) (.of_below hb) (fun k e => e.elim) (fun k hf => hf.elim))))
    have HOV := hide (fun W (hb : Below w4.heap.size w4 W) => overFrame_full yvl ynet yseq g yb W hylen (hide (keep HG4.out hb)))
    rw [show (yb == yb) = true from beq_self_eq_true yb] at HSF
    unfold frameV at HOV
    clear hb5
    generalize yb.length = yn at *
    go_wp2_with fail
    refine (HSF.out _ HB5.out).mono ?_
    rintro e w5 ⟨rfl, hb6⟩
    have HB6 := hide (HB5.out.trans (hb6.mono (by simp)))
    have HX6 := hide (keep (heap_alloc_new w4 (.cells #[.int .i64 yvl, .int .i64 ynet, .int .i64 yseq, .slice (some ⟨g, 0, none⟩) yn yn] 33)) hb6)
    obtain ⟨y0, y1, y2, y3, yl⟩ := four_of HX6.out
    clear hb6 x0 x1 x2 x3 xl
    go_wp2_with fail
    refine (HOV.out _ HB6.out).mono ?_
    rintro e w6 ⟨rfl, hk6⟩
    have hk : Kept P W3 w6 := (HK4.out.trans (.of_below HB6.out)).trans (hk6.mono (fun i h => by rw [h]; exact hpg))
    have hs6 := (HS4.out.below HB6.out).frame hk6 (fun k hp e => hp.2 e)
    have hst := St.mid HS.out HMD3.out hk hs6 (fun _ h => h.1) HSIM.out HSML.out
    have hbb := HBW3.out.trans (hk.below (B := B) (by omega) (fun i hi hp => by have := HS.out.low i hp; omega))
    have HST := hide hst
    have HBB := hide hbb
    have HMM := HML2
    clear HSML HMEM HS HMD3 HK4 HS4 HX4 HBT4 HB5 HSF HOV HB6 HX6 y0 y1 y2 y3 yl hk6 hk hs6 hst hbb HBT3 HX18 HBW3 HCAP HM HML HML2 HF HV HG4 hbg
    have HS := HST
    clear HST
    -- HS : Hid (St w6 ..), HMM : Hid (R.items.length ≤ _), HBB : Hid (Below B w w6)
    have hBl : B ≤ w6.heap.size := by have h1 := HS.out.rlow; have h2 := HS.out.rin; omega
    have HFIN : Hid (∀ w', Below w6.heap.size w6 w' → StepR w w' a rb B (m + 1) (.returned (.bool true))) := fun w' hb => ⟨rfl, StE.of HS.out HMM.out hb, HBB.out.trans (hb.mono hBl)⟩
    have HW1 := hide (fun W (hb : Below w6.heap.size w6 W) => when_any a _ _ W (hide (HS.out.sh.below hb)))
    have HW2 := hide (fun W (hb : Below w6.heap.size w6 W) => when_r _ _ _ _ bc lc' ic' _ _ W (hide (HS.out.at_.below hb)))
    have HW3 := hide (fun W (hb : Below w6.heap.size w6 W) => waiting_any a _ _ vl W (hide (HS.out.sh.below hb)))
    have HW4 := hide (fun W (hb : Below w6.heap.size w6 W) => rwaiting_any _ _ _ _ bc lc' ic' _ _ vl W (hide (HS.out.at_.below hb)))
    rw [HS.out.sim.when] at HW2
    rw [HS.out.sim.waiting] at HW4
    obtain ⟨tw, bw, HWV⟩ := whenV_pair (AS.when (S.next t).1)
    rw [HWV] at HW1 HW2
    unfold RSV at HW2 HW4
    generalize AS.waiting (S.next t).1 vl = wt at *
    have HV := hide HS.out.var
    have hrin := HS.out.rin
    clear HWV HS HMM HBB
    generalize (RS.bags R').length = nb at *
    generalize (RS.left R').length = nl at *
    generalize RS.clock R' = ck at *
    generalize (RS.items R').length = ni at *
    obtain ⟨x0, x1, x2, x3, xl⟩ := four_of HV.out
    go_wp2_with fail
    refine (HW1.out _ (Below.refl _ _)).mono ?_
    rintro e w' ⟨rfl, d, rfl⟩
    go_wp2_with fail
    refine (HW2.out _ (below_drewN (Below.refl _ _) d)).mono ?_
    rintro e wz ⟨rfl, hbz⟩
    have HBZ := hide ((below_drewN (Below.refl w6.heap.size w6) d).trans hbz)
    have hzl := HBZ.out.size
    have HVZ := hide (keep HV.out HBZ.out)
    clear hbz x0 x1 x2 x3 xl
    obtain ⟨x0, x1, x2, x3, xl⟩ := four_of HVZ.out
    have hrz : rb < wz.heap.size := by omega
    have HW3' := hide (fun s : Later wz => HW3.out s.w (HBZ.out.trans (s.below.mono hzl)))
    have HW4' := hide (fun s : Later wz => HW4.out s.w (HBZ.out.trans (s.below.mono hzl)))
    clear HW1 HW2 HW3 HW4
    go_wp2_with fail
    refine wp_region_later (W := wz) (by kernel_rfl) (by kernel_rfl) ?_
    iterate 20 (go_big_quiet_step ((first
      | (go_at_call 12; exact Later.call_same ((HW3'.out _).mono fun e w' h => ⟨h.1, h.2⟩))
      | (go_at_call 40; exact Later.call (HW4'.out _)))))
    refine wpQuiet_nil ?_
    rintro _ ⟨s, rfl⟩
    go_wp2_with fail
    go_ret
    exact HFIN.out _ (HBZ.out.trans (s.below.mono hzl))
end Go.Proofs.Ythahnliddoijoaa
