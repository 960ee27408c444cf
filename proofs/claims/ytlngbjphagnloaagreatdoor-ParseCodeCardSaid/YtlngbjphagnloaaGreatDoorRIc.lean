/-
  parse: the reference's num, choice.
-/
import Derived.Test.YtlngbjphagnloaaGreatDoorRIm
import Derived.Test.YtlngbjphagnloaaGreatDoorRfW
import Derived.Test.YtlngbjphagnloaaGreatDoorRNum
namespace Go.Proofs.YtlngbjphagnloaaGreatDoor
open Go.RowKit
attribute [local go_sem] Later.cell
/-- The numbers among the tokens are numbers. -/
def NumOk (ts : List Tok) : Prop := ∀ t ∈ ts, t.kind = 2 → numB t.text = true ∧ 0 < t.text.length ∧ t.text.length ≤ 1000000
theorem here_mem {rb : Nat} {ts : List Tok} {s : InS} {w : World} (h : RIn rb ts s w) (hk : s.here.kind ≠ 0) : s.here ∈ ts ∧ s.r ≠ [] := by
  obtain ⟨j, hj, hd, _⟩ := h.now
  unfold InS.here at hk ⊢
  split at hk
  · rename_i he
    rw [if_pos he]
    cases hr : s.r with
    | nil => rw [hr] at hk; exact absurd rfl hk
    | cons t r =>
      rw [hr] at hd
      refine ⟨List.mem_of_mem_drop (i := j) (by rw [← hd]; simp), by simp⟩
  · exact absurd rfl hk
set_option maxRecDepth 100000 in
set_option maxHeartbeats 1000000 in
theorem rnum_any (rb : Nat) (ts : List Tok) (s : InS) (W : World) (H : Hid (RIn rb ts s W)) (hts : ts.length ≤ 1000000) (HT : Hid (NumOk ts)) :
    Calls Tryz.prog 123 #[.pointer (some ⟨rb, 0, none⟩)] W fun e W' => e = .returned (.int .i64 (numR s).1) ∧ RIn rb ts (numR s).2 W' ∧ Kept (fun k => k = rb) W W' := by
  have HH := hide (rhere_any rb ts s W H hts)
  by_cases hk : s.here.kind = 2
  · obtain ⟨hm, hr⟩ := here_mem H.out (by omega)
    obtain ⟨n1, n2, n3⟩ := HT.out _ hm hk
    have HN := hide (show numR s = (((numV s.here.text : Nat) : Int), s.step) from if_pos (by simpa using hk))
    rw [HN.out]
    have HV := hide (fun V => rnumber_val ⟨s.here.text.toArray⟩ V (by show s.here.text.toArray.size ≤ _; simp; omega) (by show 0 < s.here.text.toArray.size; simpa using n2))
    have HB := hide n1
    have HR := hide hr
    clear hm hr n1 n2 n3
    generalize s.here = t at *
    obtain ⟨tk, tx, ta⟩ := t
    dsimp only at hk HV HB ⊢
    subst hk
    unfold rtokVal at HH
    go_enter Tryz.func123, Tryz.ntmps123
    go_wp2_with fail
    refine HH.out.mono ?_
    rintro e w1 ⟨rfl, hb⟩
    have hb2 := hb.alloc hb.size (.cells #[.int .i64 2, .string ⟨tx.toArray⟩, .int .i64 (ta : Int)] 192)
    obtain ⟨j, hj, c1, -⟩ := (H.out.below hb2).step HR.out
    obtain ⟨j', hj', c1', hR⟩ := (H.out.below hb).step HR.out
    have hjj : j' = j := by
      have := (World.cell?_alloc_lt w1 (.cells #[.int .i64 2, .string ⟨tx.toArray⟩, .int .i64 (ta : Int)] 192) ⟨rb, 1, none⟩ (H.out.below hb).lt).symm.trans c1
      rw [c1'] at this
      injection this with this
      injection this with _ this
      omega
    rw [hjj] at hR
    clear c1' hj' hjj
    have hK := (kept_of (F := fun k => k = rb) hb).trans ((Kept.refl (fun k => k = rb) w1).setCell (p := ⟨rb, 1, none⟩) (.inl rfl) (.int .i64 ((j : Int) + 1)))
    have HK := hide hK
    clear hK
    have f1 := (H.out.below hb2).free 1 (by decide)
    have l1 := (H.out.below hb2).lt
    have l2 := (H.out.below hb).lt
    have c5 : ((w1.alloc (.cells #[.int .i64 2, .string ⟨tx.toArray⟩, .int .i64 (ta : Int)] 192)).setCell ⟨rb, 1, none⟩ (.int .i64 ((j : Int) + 1))).cell? ⟨w1.heap.size, 1, none⟩ = some (.string ⟨tx.toArray⟩) := by
      rw [World.cell?_setCell_other _ _ _ _ (fun e => by injection e with e _ _; omega), cell_of_row _ _ _ _ _ _ (heap_alloc_new w1 _)]
      rfl
    have HR2 := hide hR
    have HB2 := hide hb2
    clear hR hb hb2
    go_wp2_with fail
    refine (HV.out _).mono ?_
    rintro e w2 ⟨n, rfl, rfl, hn⟩
    obtain rfl := hn HB.out
    rw [HB.out]
    go_wp2_with fail
    go_ret
    exact ⟨rfl, HR2.out.below ((Below.refl _ _).alloc (Nat.le_refl _) _), HK.out.trans (kept_of ((Below.refl _ _).alloc (Nat.le_refl _) _))⟩
  · have HN := hide (show numR s = (0, (failR 80 s).2) from if_neg (by simpa using hk))
    rw [HN.out]
    have e1 : ((s.here.kind : Int) != 2) = true := by simp; omega
    clear hk
    unfold rtokVal at HH
    go_enter Tryz.func123, Tryz.ntmps123
    go_wp2_with fail
    refine HH.out.mono ?_
    rintro e w1 ⟨rfl, hb⟩
    have hb2 := hb.alloc hb.size (.cells #[.int .i64 (s.here.kind : Int), .string ⟨s.here.text.toArray⟩, .int .i64 (s.here.at_ : Int)] 192)
    have H1 := hide (H.out.below hb2)
    have HB := hide hb2
    clear hb hb2
    go_wp2_with fail
    refine (rfail_any rb 80 ts s _ H1 hts).mono ?_
    rintro e w2 ⟨rfl, h1, h2⟩
    have H3 := hide h1
    have H4 := hide h2
    clear h1 h2
    go_wp2_with fail
    go_ret
    exact ⟨rfl, H3.out, (kept_of HB.out).trans H4.out⟩
set_option maxRecDepth 100000 in
set_option maxHeartbeats 1000000 in
theorem rchoice_any (rb : Nat) (x : ByteArray) (l : List (List UInt8)) (hx : splitS x.data.toList = l) (hz : x.size ≤ 1000000) (hl : l.length ≤ 250) (ts : List Tok) (s : InS) (W : World) (H : Hid (RIn rb ts s W)) (hts : ts.length ≤ 1000000) :
    Calls Tryz.prog 122 #[.pointer (some ⟨rb, 0, none⟩), .string x] W fun e W' => e = .returned (.int .u8 (((choiceR l s).1 : Nat) : Int)) ∧ RIn rb ts (choiceR l s).2 W' ∧ Kept (fun k => k = rb) W W' := by
  have HH := hide (fun w1 h1 => rhere_any rb ts s w1 h1 hts)
  have HF := hide (fun (y : ByteArray) V => find_any x y hz (by rw [hx]; exact hl) V)
  rw [hx] at HF
  have hfn : findN l s.here.text ≤ 250 := by
    unfold findN
    split
    · rename_i i hi
      have := (List.findIdx?_eq_some_iff_getElem.1 hi).1
      omega
    · omega
  by_cases hk : s.here.kind = 1
  · obtain ⟨_, hr⟩ := here_mem H.out (by omega)
    have HR := hide hr
    by_cases hf : findN l s.here.text = 0
    · have HN := hide (show choiceR l s = (0, (failR 80 s).2) from if_neg (by simp [hf]))
      rw [HN.out]
      have HY := hide (fun V => HF.out ⟨s.here.text.toArray⟩ V)
      have e1 : ((s.here.kind : Int) == 1) = true := by rw [hk]; rfl
      rw [show (⟨s.here.text.toArray⟩ : ByteArray).data.toList = s.here.text by simp, hf] at HY
      clear hr hf hk HF hfn
      unfold rtokVal at HH
      have hfl := fun a b c w => rtok_field a b c w
      have hf1 := fun a b c w => (hfl a b c w).2.1
      have hf0 := fun a b c w => (hfl a b c w).2.2
      clear hfl
      go_enter Tryz.func122, Tryz.ntmps122
      go_wp2_with fail
      refine (HH.out W H).mono ?_
      rintro e w1 ⟨rfl, hb⟩
      have H1 := hide (H.out.below hb)
      have HB := hide hb
      clear hb
      go_wp2_with fail
      refine (HH.out w1 H1).mono ?_
      rintro e w2 ⟨rfl, hb⟩
      have H2 := hide (H1.out.below hb)
      have HB2 := hide (HB.out.trans (hb.mono HB.out.size))
      clear hb
      go_wp2_with fail
      refine (HY.out w2).mono ?_
      rintro e w3 ⟨rfl, hb⟩
      have H3 := hide (H2.out.below hb)
      have HB3 := hide (HB2.out.trans (hb.mono HB2.out.size))
      clear hb
      go_wp2_with fail
      refine (rfail_any rb 80 ts s w3 H3 hts).mono ?_
      rintro e w4 ⟨rfl, h1, h2⟩
      have H4 := hide h1
      have H5 := hide h2
      clear h1 h2
      go_wp2_with fail
      go_ret
      exact ⟨rfl, H4.out, (kept_of HB3.out).trans H5.out⟩
    · have HN := hide (show choiceR l s = (findN l s.here.text, s.step) from if_pos (by simp [hf, hk]))
      rw [HN.out]
      have HY := hide (fun V => HF.out ⟨s.here.text.toArray⟩ V)
      have e1 : ((s.here.kind : Int) == 1) = true := by rw [hk]; rfl
      rw [show (⟨s.here.text.toArray⟩ : ByteArray).data.toList = s.here.text by simp] at HY
      generalize findN l s.here.text = n at *
      have e2 : ((n : Int) == 0) = false := by simp; omega
      clear hr hf hk HF
      unfold rtokVal at HH
      have hf1 := fun a b c w => (rtok_field a b c w).2.1
      have hf0 := fun a b c w => (rtok_field a b c w).2.2
      go_enter Tryz.func122, Tryz.ntmps122
      go_wp2_with fail
      refine (HH.out W H).mono ?_
      rintro e w1 ⟨rfl, hb⟩
      have H1 := hide (H.out.below hb)
      have HB := hide hb
      clear hb
      go_wp2_with fail
      refine (HH.out w1 H1).mono ?_
      rintro e w2 ⟨rfl, hb⟩
      have H2 := hide (H1.out.below hb)
      have HB2 := hide (HB.out.trans (hb.mono HB.out.size))
      clear hb
      go_wp2_with fail
      refine (HY.out w2).mono ?_
      rintro e w3 ⟨rfl, hb⟩
      have H3 := hide (H2.out.below hb)
      have HB3 := hide (HB2.out.trans (hb.mono HB2.out.size))
      clear hb
      obtain ⟨j, hj, c1, hR⟩ := H3.out.step HR.out
      have f1 := H3.out.free 1 (by decide)
      have l1 := H3.out.lt
      have HR2 := hide hR
      clear hR
      go_wp2_with fail
      go_ret
      exact ⟨rfl, HR2.out, (kept_of HB3.out).trans ((Kept.refl (fun k => k = rb) w3).setCell (p := ⟨rb, 1, none⟩) (.inl rfl) _)⟩
  · have HN := hide (show choiceR l s = (0, (failR 80 s).2) from if_neg (by simp [hk]))
    rw [HN.out]
    have e1 : ((s.here.kind : Int) == 1) = false := by simp; omega
    clear hk HF hfn
    unfold rtokVal at HH
    have hf0 := fun a b c w => (rtok_field a b c w).2.2
    go_enter Tryz.func122, Tryz.ntmps122
    go_wp2_with fail
    refine (HH.out W H).mono ?_
    rintro e w1 ⟨rfl, hb⟩
    have H1 := hide (H.out.below hb)
    have HB := hide hb
    clear hb
    go_wp2_with fail
    refine (rfail_any rb 80 ts s w1 H1 hts).mono ?_
    rintro e w4 ⟨rfl, h1, h2⟩
    have H4 := hide h1
    have H5 := hide h2
    clear h1 h2
    go_wp2_with fail
    go_ret
    exact ⟨rfl, H4.out, (kept_of HB.out).trans H5.out⟩
end Go.Proofs.YtlngbjphagnloaaGreatDoor
