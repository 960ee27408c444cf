/-
  parse: the reference's code: instructions.
-/
import Derived.Test.YtlngbjphagnloaaGreatDoorRIc
import Derived.Test.YtlngbjphagnloaaGreatDoorParRC
import Derived.Test.YtlngbjphagnloaaGreatDoorPk11
import Derived.Test.YtlngbjphagnloaaGreatDoorPk12
namespace Go.Proofs.YtlngbjphagnloaaGreatDoor
open Go.RowKit
attribute [local go_sem] Later.cell
/-- As many numbers as n, one after the other. -/
theorem insR_eq (s : InS) : insR s = (fun c : Nat × InS => (fun o : List Int × InS => ((⟨c.1, o.1.getD 0 0, o.1.getD 1 0, o.1.getD 2 0⟩ : InsD), (mustR [59] o.2).2)) (opsR (wordN insOps c.1).length c.2)) (choiceR insWords s) := rfl
theorem opsR_0 (s : InS) : opsR 0 s = ([], s) := rfl
theorem opsR_1 (s : InS) : opsR 1 s = ([(numR s).1], (numR s).2) := rfl
theorem opsR_2 (s : InS) : opsR 2 s = ([(numR s).1, (numR (numR s).2).1], (numR (numR s).2).2) := rfl
theorem opsR_3 (s : InS) : opsR 3 s = ([(numR s).1, (numR (numR s).2).1, (numR (numR (numR s).2).2).1], (numR (numR (numR s).2).2).2) := rfl
/-- How many tokens are left behind an instruction. -/
theorem insR_less (s : InS) (hs : s.err = 0) : (insR s).2.err ≠ 0 ∨ (insR s).2.err = 0 ∧ (insR s).2.r.length < s.r.length := by
  have h := ins_along.fine s hs
  cases hp : insP s.r with
  | ok a r =>
    rw [hp] at h
    have h : insR s = (a, ⟨r, s.size, s.at_, 0⟩) := h
    rw [h]
    exact .inr ⟨rfl, ins_lt _ _ _ hp⟩
  | bad e r =>
    rw [hp] at h
    obtain ⟨h1, h2, _⟩ := h
    exact .inl (by rw [h2]; exact h1)
theorem codeLoopR_step {f : Nat} {acc : List InsD} {s : InS} (h : s.here.kind = 1) : codeLoopR (f + 1) acc s = codeLoopR f (acc ++ [(insR s).1]) (insR s).2 := by
  show (if s.here.kind == 1 then _ else _) = _
  rw [if_pos (by simpa using h)]
  rfl
theorem codeLoopR_stop {f : Nat} {acc : List InsD} {s : InS} (h : s.here.kind ≠ 1) : codeLoopR f acc s = (acc, s) := by
  cases f with
  | zero => rfl
  | succ f =>
    show (if s.here.kind == 1 then _ else _) = _
    rw [if_neg (by simpa using h)]
theorem kind_err {s : InS} (h : s.here.kind = 1) : s.err = 0 := by
  unfold InS.here at h
  split at h
  · assumption
  · cases h
theorem kind_left {s : InS} (h : s.here.kind = 1) : 0 < s.r.length := by
  unfold InS.here at h
  split at h
  · cases hr : s.r with
    | nil => rw [hr] at h; cases h
    | cons t r => simp
  · cases h
/-- The state behind other blocks' changes. -/
theorem RIn.kept {F : Nat → Prop} {rb : Nat} {ts : List Tok} {s : InS} {w w' : World} (h : RIn rb ts s w) (hk : Kept F w w') (hF : ∀ b, b ≤ rb → ¬ F b) : RIn rb ts s w' := by
  have hb := hk.block rb h.lt (hF rb (Nat.le_refl _))
  have hc : ∀ o, w'.cell? ⟨rb, o, none⟩ = w.cell? ⟨rb, o, none⟩ := fun o => World.cell?_of_block (w := w) (a := ⟨rb, o, none⟩) hb
  obtain ⟨A, c, h0, hr, hA⟩ := h.toks
  obtain ⟨j, hj, hd, h1⟩ := h.now
  exact ⟨Nat.lt_of_lt_of_le h.lt hk.size, ⟨A, c, (hc 0).trans h0, hr.kept hk (fun a ha => hF _ (Nat.le_of_lt (hA a ha))), hA⟩, ⟨j, hj, hd, (hc 1).trans h1⟩, (hc 2).trans h.size, (hc 3).trans h.at_, (hc 4).trans h.err, fun o ho => (World.frozen?_of_block (a := ⟨rb, o, none⟩) hb).trans (h.free o ho)⟩
theorem RIn.far {rb : Nat} {ts : List Tok} {s : InS} {w : World} (h : RIn rb ts s w) {p : Addr} (hp : rb < p.block) (v : Value) : RIn rb ts s (w.setCell p v) :=
  h.kept ((Kept.refl (fun b => b = p.block) w).setCell (.inl rfl) v) (fun b hb e => by omega)
def lenV : Value → Nat
  | .slice _ n _ => n
  | _ => 0
theorem RIn.few {rb : Nat} {ts : List Tok} {s : InS} {w : World} (h : RIn rb ts s w) : s.r.length ≤ ts.length := by
  obtain ⟨j, _, hd, _⟩ := h.now
  rw [hd, List.length_drop]
  omega
set_option maxRecDepth 100000 in
set_option maxHeartbeats 4000000 in
theorem rcode_any (rb : Nat) (ts : List Tok) (s : InS) (W : World) (H : Hid (RIn rb ts s W)) (hts : ts.length ≤ 1000000) (HT : Hid (NumOk ts)) :
    Calls Tryz.prog 85 #[.pointer (some ⟨rb, 0, none⟩)] W fun e W' => ∃ v, e = .returned v ∧ RIn rb ts (codeR s).2 W' ∧ Kept (fun k => k = rb) W W' ∧ W'.ownsRow W.heap.size 60 4 v (codeR s).1.length ((codeR s).1.flatMap insCells) := by
  obtain ⟨i0, hi0, hz0, hz1, hz2⟩ := info_parts ins_info
  have hrb := H.out.lt
  have hf0 := fun a b c w => (rtok_field a b c w).2.2
  go_enter Tryz.func85, Tryz.ntmps85
  go_wp2_with fail
  go_loopw [3] (fun v3 wr => ∃ (acc : List InsD) (s1 : InS) (f : Nat), (s1.err = 0 → s1.r.length < f ∧ acc.length + s1.r.length ≤ ts.length) ∧ acc.length ≤ ts.length ∧ codeLoopR f acc s1 = codeR s ∧ RIn rb ts s1 wr ∧ Kept (fun k => k = rb) W wr ∧ wr.ownsRow W.heap.size 60 4 v3 acc.length (acc.flatMap insCells)) (fun v3 _ => ts.length - lenV v3)
  case atStart => exact ⟨[], s, s.r.length + 1, fun _ => ⟨by omega, by simpa using H.out.few⟩, by simp, rfl, H.out, Kept.refl _ _, World.ownsRow_nil _ _ _ _⟩
  case round =>
    obtain ⟨acc, s1, f, hf, hal, hC, hR, hK, hO⟩ := hrel
    obtain ⟨Q, qc, rfl⟩ := own_form hO
    have HH := hide (rhere_any rb ts s1 wr (hide hR) hts)
    by_cases hk1 : s1.here.kind = 1
    rotate_left
    · rw [codeLoopR_stop hk1] at hC
      have e1 : ((s1.here.kind : Int) == 1) = false := by simp; omega
      have HR := hide hR
      have HK := hide hK
      have HO := hide hO
      have HC := hide hC
      clear hk1 hR hK hO hf hC
      unfold rtokVal at HH
      go_wp2_with fail
      refine HH.out.mono ?_
      rintro e w1 ⟨rfl, hb⟩
      have HB := hide hb
      clear hb
      go_wp2_with fail
      refine bodyPost_ret (v := .slice Q acc.length qc) (by simp [results, Tryz.results85, go_sem]) rfl ?_
      rw [← HC.out]
      exact ⟨_, rfl, HR.out.below HB.out, HK.out.trans (kept_of HB.out), own_keep HO.out (fun g hg _ => HB.out.block g (own_lt HO.out hg).2)⟩
    · obtain ⟨hf1, hf2⟩ := hf (kind_err hk1)
      have hpos := kind_left hk1
      obtain ⟨f, rfl⟩ : ∃ f', f = f' + 1 := ⟨f - 1, by omega⟩
      have e1 : ((s1.here.kind : Int) == 1) = true := by rw [hk1]; rfl
      have HK1 := hide hk1
      have HC0 := hide hC
      have HCH := hide (fun V h => rchoice_any rb ⟨#[119, 111, 114, 107, 32, 115, 101, 116, 32, 97, 100, 100, 32, 115, 117, 98, 32, 108, 111, 97, 100, 32, 115, 116, 111, 114, 101, 32, 115, 101, 110, 100, 32, 114, 101, 99, 118, 32, 119, 97, 105, 116, 32, 115, 105, 103, 110, 97, 108, 32, 114, 97, 105, 115, 101, 32, 108, 111, 119, 101, 114, 32, 117, 110, 116, 105, 108, 32, 112, 117, 116, 32, 103, 101, 116, 32, 115, 104, 111, 119, 32, 108, 111, 111, 107, 32, 99, 108, 101, 97, 114, 32, 110, 101, 120, 116, 32, 106, 117, 109, 112, 32, 122, 101, 114, 111, 32, 108, 101, 115, 115, 32, 100, 105, 118, 32, 102, 97, 117, 108, 116, 32, 115, 116, 111, 112]⟩ insWords split_words (by decide) (by decide) ts s1 V h hts)
      have hI := insR_eq s1
      have hN : (choiceR insWords s1).1 ≤ 25 := by
        unfold choiceR
        split
        · exact findN_le insWords _
        · exact Nat.zero_le _
      obtain ⟨⟨N, s2⟩, hc⟩ : ∃ p, choiceR insWords s1 = p := ⟨_, rfl⟩
      simp only [hc] at HCH hI hN
      have HR := hide hR
      have HK := hide hK
      have HO := hide hO
      clear hk1 hR hK hO hf hC hc
      unfold rtokVal at HH
      go_wp2_with fail
      refine HH.out.mono ?_
      rintro e w1 ⟨rfl, hb⟩
      have H1 := hide (HR.out.below hb)
      have HK0 := hide (HK.out.trans (kept_of hb))
      have HO0 := hide (own_keep HO.out (fun g hg _ => hb.block g (own_lt HO.out hg).2))
      clear hb HR HK HO HH
      go_wp2_with fail
      refine (HCH.out w1 H1).mono ?_
      rintro e w2 ⟨rfl, hr, hk⟩
      have HX := hide (heap_alloc_new w2 (.cells #[.int .u8 (N : Int), .int .i64 0, .int .i64 0, .int .i64 0] 60))
      have hba := (Below.refl w2.heap.size w2).alloc (Nat.le_refl _) (.cells #[.int .u8 (N : Int), .int .i64 0, .int .i64 0, .int .i64 0] 60)
      have HR := hide (hr.below hba)
      have ho := own_keep HO0.out (fun g hg _ => hk.block g (own_lt HO0.out hg).2 (by have := own_lt HO0.out hg; omega))
      have HOg := hide (fun (g : Nat) (hg : (Value.slice Q acc.length qc).ownBlock = some g) => (own_lt ho hg).2)
      have HO := hide (own_keep ho (fun g hg _ => hba.block g (own_lt ho hg).2))
      have HK := hide ((HK0.out.trans hk).trans (kept_of hba))
      have hxW : W.heap.size ≤ w2.heap.size := (HK0.out.trans hk).size
      have hrx : rb < w2.heap.size := hr.lt
      clear hr hk ho hba H1 HK0 HO0 HCH
      have HOP := hide (fun V => rops_any N (by omega) V)
      have h3 := (ops_small N hN).1
      obtain ⟨O, hO⟩ : ∃ O : ByteArray, (⟨(wordN insOps N).toArray⟩ : ByteArray) = O := ⟨_, rfl⟩
      have hOs : O.size = (wordN insOps N).length := by rw [← hO]; simp [ByteArray.size]
      rw [hO] at HOP
      clear hO
      go_wp2_with fail
      refine (HOP.out _).mono ?_
      rintro e w3 ⟨rfl, hb⟩
      have HX3 := hide ((hb.block w2.heap.size (Array.getElem?_eq_some_iff.1 HX.out).1).trans HX.out)
      have HR3 := hide (HR.out.below hb)
      have HK3 := hide (HK.out.trans (kept_of hb))
      have HO3 := hide (own_keep HO.out (fun g hg _ => hb.block g (own_lt HO.out hg).2))
      clear hb HX HR HK HO HOP
      have HX := HX3
      have HR := HR3
      have HK := HK3
      have HO := HO3
      clear HX3 HR3 HK3 HO3
      generalize w2.heap.size = xb at *
      generalize (wordN insOps N).length = n at *
      rcases (by omega : n = 0 ∨ n = 1 ∨ n = 2 ∨ n = 3) with rfl | rfl | rfl | rfl
      · rw [opsR_0] at hI
        have g0 : ¬ (0 : Int) < (O.size : Int) := by omega
        have g1 : ¬ (1 : Int) < (O.size : Int) := by omega
        have g2 : ¬ (2 : Int) < (O.size : Int) := by omega
        clear hOs
        go_wp2_with fail
        obtain ⟨⟨_, s9⟩, h9⟩ : ∃ p, mustR [59] s2 = p := ⟨_, rfl⟩
        have HC := hide (rmust_any rb ⟨#[59]⟩ ts s2 _ HR hts)
        rw [show (⟨#[59]⟩ : ByteArray).data.toList = [59] from rfl, h9] at HC
        rw [h9] at hI
        dsimp only at HC hI
        refine HC.out.mono ?_
        clear HC
        rintro e wd ⟨rfl, hr, hk⟩
        have hx := (hk.block xb (Array.getElem?_eq_some_iff.1 HX.out).1 (by omega)).trans HX.out
        have ho := own_keep HO.out (fun g hg _ => hk.block g (own_lt HO.out hg).2 (by have := own_lt HO.out hg; omega))
        have HK9 := hide (HK.out.trans hk)
        have HO9 := hide ho
        have HR9 := hide hr
        have hsz := HK9.out.size
        obtain ⟨c0, c1, c2, c3, -⟩ := row4 hx rfl
        have HI := hide hI
        clear hr hk hx ho HK HX HO HR h9 hI
        go_wp2_with (first
          | (at_builtin; refine wpList_append_own _ rfl _ _ 62 rfl W.heap.size 60 i0 (.agg #[.int .u8 0, .int .i64 0, .int .i64 0, .int .i64 0]) 4 32 Tryz.underlying62 hi0 hz0 (by assumption) (by assumption) rfl (by decide) _ _ _ rfl (HO9.out.alloc _) ⟨wd.heap.size, 0, none⟩ 1 1 [.int .u8 (N : Int), .int .i64 0, .int .i64 0, .int .i64 0] rfl rfl (news_of (by simp)) (by simp [Value.oneCell']) (by unfold maxLen; omega) (by omega) (by simp; omega) ?_; intro v' w9 hown' hgrow _))
        have hG0 : Below W.heap.size wd w9 := Below.grown ((Below.refl _ wd).alloc hsz _) hgrow (by simp; omega) (fun g hg => (own_lt HO9.out hg).1)
        have hG1 : Kept (fun b => W.heap.size ≤ b) wd w9 := ⟨hG0.os, hG0.tape, hG0.output, hG0.size, fun i _ hn => hG0.block i (by omega)⟩
        have HRn := hide (HR9.out.kept hG1 (fun b hb => by omega))
        have HKn := hide (HK9.out.trans2 hG1 (fun i hi h => by omega))
        have HOn := hide hown'
        clear hG0 hG1 hown' hgrow c0 c1 c2 c3 HR9 HK9 HO9
        try go_wp2_with fail
        go_roundw
        case rel =>
          have hins : insR s1 = (⟨N, 0, 0, 0⟩, s9) := HI.out
          refine ⟨acc ++ [⟨N, 0, 0, 0⟩], s9, f, fun h0 => ?_, by simp; omega, ?_, HRn.out, HKn.out, by simpa [insCells] using HOn.out⟩
          · rcases insR_less s1 (kind_err HK1.out) with h | ⟨_, h⟩
            · rw [hins] at h; exact absurd h0 h
            · rw [hins] at h
              dsimp only at h
              simp
              omega
          · rw [← HC0.out, codeLoopR_step HK1.out, hins]
        case measure =>
          obtain ⟨_, _, rfl⟩ := own_form HOn.out
          simp [lenV]
          omega
      · rw [opsR_1] at hI
        have g0 : (0 : Int) < (O.size : Int) := by omega
        have g1 : ¬ (1 : Int) < (O.size : Int) := by omega
        have g2 : ¬ (2 : Int) < (O.size : Int) := by omega
        clear hOs
        go_wp2_with fail
        obtain ⟨⟨a, s3⟩, h3⟩ : ∃ p, numR s2 = p := ⟨_, rfl⟩
        have HC := hide (rnum_any rb ts s2 _ HR hts HT)
        rw [h3] at HC
        rw [h3] at hI
        dsimp only at HC hI
        refine HC.out.mono ?_
        clear HC
        rintro e wd ⟨rfl, hr, hk⟩
        have hx := (hk.block xb (Array.getElem?_eq_some_iff.1 HX.out).1 (by omega)).trans HX.out
        have ho := own_keep HO.out (fun g hg _ => hk.block g (own_lt HO.out hg).2 (by have := own_lt HO.out hg; omega))
        have hd := (HK.out.trans hk).setCell (p := ⟨xb, 1, none⟩) (.inr hxW) (.int .i64 a)
        have ci := cell_of_row _ _ 1 _ _ _ hx
        have fi := frozen_of_row _ _ 1 _ _ hx
        have hl := (Array.getElem?_eq_some_iff.1 hx).1
        have ho := own_keep ho (w' := wd.setCell ⟨xb, 1, none⟩ (.int .i64 a)) (fun g hg _ => Below.heap_setCell _ _ _ _ (by have := HOg.out g hg; show g ≠ xb; omega))
        have hr := hr.far (p := ⟨xb, 1, none⟩) hrx (.int .i64 a)
        have hx := heap_setCell_same wd xb 1 _ _ (.int .i64 a) hx
        clear HX HO HK HR hk
        have HX := hide hx
        have HO := hide ho
        have HK := hide hd
        have HR := hide hr
        clear hx ho hd hr h3
        go_wp2_with fail
        clear ci fi hl
        obtain ⟨⟨_, s9⟩, h9⟩ : ∃ p, mustR [59] s3 = p := ⟨_, rfl⟩
        have HC := hide (rmust_any rb ⟨#[59]⟩ ts s3 _ HR hts)
        rw [show (⟨#[59]⟩ : ByteArray).data.toList = [59] from rfl, h9] at HC
        rw [h9] at hI
        dsimp only at HC hI
        refine HC.out.mono ?_
        clear HC
        rintro e wd ⟨rfl, hr, hk⟩
        have hx := (hk.block xb (Array.getElem?_eq_some_iff.1 HX.out).1 (by omega)).trans HX.out
        have ho := own_keep HO.out (fun g hg _ => hk.block g (own_lt HO.out hg).2 (by have := own_lt HO.out hg; omega))
        have HK9 := hide (HK.out.trans hk)
        have HO9 := hide ho
        have HR9 := hide hr
        have hsz := HK9.out.size
        obtain ⟨c0, c1, c2, c3, -⟩ := row4 hx rfl
        have HI := hide hI
        clear hr hk hx ho HK HX HO HR h9 hI
        go_wp2_with (first
          | (at_builtin; refine wpList_append_own _ rfl _ _ 62 rfl W.heap.size 60 i0 (.agg #[.int .u8 0, .int .i64 0, .int .i64 0, .int .i64 0]) 4 32 Tryz.underlying62 hi0 hz0 (by assumption) (by assumption) rfl (by decide) _ _ _ rfl (HO9.out.alloc _) ⟨wd.heap.size, 0, none⟩ 1 1 [.int .u8 (N : Int), .int .i64 a, .int .i64 0, .int .i64 0] rfl rfl (news_of (by simp)) (by simp [Value.oneCell']) (by unfold maxLen; omega) (by omega) (by simp; omega) ?_; intro v' w9 hown' hgrow _))
        have hG0 : Below W.heap.size wd w9 := Below.grown ((Below.refl _ wd).alloc hsz _) hgrow (by simp; omega) (fun g hg => (own_lt HO9.out hg).1)
        have hG1 : Kept (fun b => W.heap.size ≤ b) wd w9 := ⟨hG0.os, hG0.tape, hG0.output, hG0.size, fun i _ hn => hG0.block i (by omega)⟩
        have HRn := hide (HR9.out.kept hG1 (fun b hb => by omega))
        have HKn := hide (HK9.out.trans2 hG1 (fun i hi h => by omega))
        have HOn := hide hown'
        clear hG0 hG1 hown' hgrow c0 c1 c2 c3 HR9 HK9 HO9
        try go_wp2_with fail
        go_roundw
        case rel =>
          have hins : insR s1 = (⟨N, a, 0, 0⟩, s9) := HI.out
          refine ⟨acc ++ [⟨N, a, 0, 0⟩], s9, f, fun h0 => ?_, by simp; omega, ?_, HRn.out, HKn.out, by simpa [insCells] using HOn.out⟩
          · rcases insR_less s1 (kind_err HK1.out) with h | ⟨_, h⟩
            · rw [hins] at h; exact absurd h0 h
            · rw [hins] at h
              dsimp only at h
              simp
              omega
          · rw [← HC0.out, codeLoopR_step HK1.out, hins]
        case measure =>
          obtain ⟨_, _, rfl⟩ := own_form HOn.out
          simp [lenV]
          omega
      · rw [opsR_2] at hI
        have g0 : (0 : Int) < (O.size : Int) := by omega
        have g1 : (1 : Int) < (O.size : Int) := by omega
        have g2 : ¬ (2 : Int) < (O.size : Int) := by omega
        clear hOs
        go_wp2_with fail
        obtain ⟨⟨a, s3⟩, h3⟩ : ∃ p, numR s2 = p := ⟨_, rfl⟩
        have HC := hide (rnum_any rb ts s2 _ HR hts HT)
        rw [h3] at HC
        rw [h3] at hI
        dsimp only at HC hI
        refine HC.out.mono ?_
        clear HC
        rintro e wd ⟨rfl, hr, hk⟩
        have hx := (hk.block xb (Array.getElem?_eq_some_iff.1 HX.out).1 (by omega)).trans HX.out
        have ho := own_keep HO.out (fun g hg _ => hk.block g (own_lt HO.out hg).2 (by have := own_lt HO.out hg; omega))
        have hd := (HK.out.trans hk).setCell (p := ⟨xb, 1, none⟩) (.inr hxW) (.int .i64 a)
        have ci := cell_of_row _ _ 1 _ _ _ hx
        have fi := frozen_of_row _ _ 1 _ _ hx
        have hl := (Array.getElem?_eq_some_iff.1 hx).1
        have ho := own_keep ho (w' := wd.setCell ⟨xb, 1, none⟩ (.int .i64 a)) (fun g hg _ => Below.heap_setCell _ _ _ _ (by have := HOg.out g hg; show g ≠ xb; omega))
        have hr := hr.far (p := ⟨xb, 1, none⟩) hrx (.int .i64 a)
        have hx := heap_setCell_same wd xb 1 _ _ (.int .i64 a) hx
        clear HX HO HK HR hk
        have HX := hide hx
        have HO := hide ho
        have HK := hide hd
        have HR := hide hr
        clear hx ho hd hr h3
        go_wp2_with fail
        clear ci fi hl
        obtain ⟨⟨b, s4⟩, h4⟩ : ∃ p, numR s3 = p := ⟨_, rfl⟩
        have HC := hide (rnum_any rb ts s3 _ HR hts HT)
        rw [h4] at HC
        rw [h4] at hI
        dsimp only at HC hI
        refine HC.out.mono ?_
        clear HC
        rintro e wd ⟨rfl, hr, hk⟩
        have hx := (hk.block xb (Array.getElem?_eq_some_iff.1 HX.out).1 (by omega)).trans HX.out
        have ho := own_keep HO.out (fun g hg _ => hk.block g (own_lt HO.out hg).2 (by have := own_lt HO.out hg; omega))
        have hd := (HK.out.trans hk).setCell (p := ⟨xb, 2, none⟩) (.inr hxW) (.int .i64 b)
        have ci := cell_of_row _ _ 2 _ _ _ hx
        have fi := frozen_of_row _ _ 2 _ _ hx
        have hl := (Array.getElem?_eq_some_iff.1 hx).1
        have ho := own_keep ho (w' := wd.setCell ⟨xb, 2, none⟩ (.int .i64 b)) (fun g hg _ => Below.heap_setCell _ _ _ _ (by have := HOg.out g hg; show g ≠ xb; omega))
        have hr := hr.far (p := ⟨xb, 2, none⟩) hrx (.int .i64 b)
        have hx := heap_setCell_same wd xb 2 _ _ (.int .i64 b) hx
        clear HX HO HK HR hk
        have HX := hide hx
        have HO := hide ho
        have HK := hide hd
        have HR := hide hr
        clear hx ho hd hr h4
        go_wp2_with fail
        clear ci fi hl
        obtain ⟨⟨_, s9⟩, h9⟩ : ∃ p, mustR [59] s4 = p := ⟨_, rfl⟩
        have HC := hide (rmust_any rb ⟨#[59]⟩ ts s4 _ HR hts)
        rw [show (⟨#[59]⟩ : ByteArray).data.toList = [59] from rfl, h9] at HC
        rw [h9] at hI
        dsimp only at HC hI
        refine HC.out.mono ?_
        clear HC
        rintro e wd ⟨rfl, hr, hk⟩
        have hx := (hk.block xb (Array.getElem?_eq_some_iff.1 HX.out).1 (by omega)).trans HX.out
        have ho := own_keep HO.out (fun g hg _ => hk.block g (own_lt HO.out hg).2 (by have := own_lt HO.out hg; omega))
        have HK9 := hide (HK.out.trans hk)
        have HO9 := hide ho
        have HR9 := hide hr
        have hsz := HK9.out.size
        obtain ⟨c0, c1, c2, c3, -⟩ := row4 hx rfl
        have HI := hide hI
        clear hr hk hx ho HK HX HO HR h9 hI
        go_wp2_with (first
          | (at_builtin; refine wpList_append_own _ rfl _ _ 62 rfl W.heap.size 60 i0 (.agg #[.int .u8 0, .int .i64 0, .int .i64 0, .int .i64 0]) 4 32 Tryz.underlying62 hi0 hz0 (by assumption) (by assumption) rfl (by decide) _ _ _ rfl (HO9.out.alloc _) ⟨wd.heap.size, 0, none⟩ 1 1 [.int .u8 (N : Int), .int .i64 a, .int .i64 b, .int .i64 0] rfl rfl (news_of (by simp)) (by simp [Value.oneCell']) (by unfold maxLen; omega) (by omega) (by simp; omega) ?_; intro v' w9 hown' hgrow _))
        have hG0 : Below W.heap.size wd w9 := Below.grown ((Below.refl _ wd).alloc hsz _) hgrow (by simp; omega) (fun g hg => (own_lt HO9.out hg).1)
        have hG1 : Kept (fun b => W.heap.size ≤ b) wd w9 := ⟨hG0.os, hG0.tape, hG0.output, hG0.size, fun i _ hn => hG0.block i (by omega)⟩
        have HRn := hide (HR9.out.kept hG1 (fun b hb => by omega))
        have HKn := hide (HK9.out.trans2 hG1 (fun i hi h => by omega))
        have HOn := hide hown'
        clear hG0 hG1 hown' hgrow c0 c1 c2 c3 HR9 HK9 HO9
        try go_wp2_with fail
        go_roundw
        case rel =>
          have hins : insR s1 = (⟨N, a, b, 0⟩, s9) := HI.out
          refine ⟨acc ++ [⟨N, a, b, 0⟩], s9, f, fun h0 => ?_, by simp; omega, ?_, HRn.out, HKn.out, by simpa [insCells] using HOn.out⟩
          · rcases insR_less s1 (kind_err HK1.out) with h | ⟨_, h⟩
            · rw [hins] at h; exact absurd h0 h
            · rw [hins] at h
              dsimp only at h
              simp
              omega
          · rw [← HC0.out, codeLoopR_step HK1.out, hins]
        case measure =>
          obtain ⟨_, _, rfl⟩ := own_form HOn.out
          simp [lenV]
          omega
      · rw [opsR_3] at hI
        have g0 : (0 : Int) < (O.size : Int) := by omega
        have g1 : (1 : Int) < (O.size : Int) := by omega
        have g2 : (2 : Int) < (O.size : Int) := by omega
        clear hOs
        go_wp2_with fail
        obtain ⟨⟨a, s3⟩, h3⟩ : ∃ p, numR s2 = p := ⟨_, rfl⟩
        have HC := hide (rnum_any rb ts s2 _ HR hts HT)
        rw [h3] at HC
        rw [h3] at hI
        dsimp only at HC hI
        refine HC.out.mono ?_
        clear HC
        rintro e wd ⟨rfl, hr, hk⟩
        have hx := (hk.block xb (Array.getElem?_eq_some_iff.1 HX.out).1 (by omega)).trans HX.out
        have ho := own_keep HO.out (fun g hg _ => hk.block g (own_lt HO.out hg).2 (by have := own_lt HO.out hg; omega))
        have hd := (HK.out.trans hk).setCell (p := ⟨xb, 1, none⟩) (.inr hxW) (.int .i64 a)
        have ci := cell_of_row _ _ 1 _ _ _ hx
        have fi := frozen_of_row _ _ 1 _ _ hx
        have hl := (Array.getElem?_eq_some_iff.1 hx).1
        have ho := own_keep ho (w' := wd.setCell ⟨xb, 1, none⟩ (.int .i64 a)) (fun g hg _ => Below.heap_setCell _ _ _ _ (by have := HOg.out g hg; show g ≠ xb; omega))
        have hr := hr.far (p := ⟨xb, 1, none⟩) hrx (.int .i64 a)
        have hx := heap_setCell_same wd xb 1 _ _ (.int .i64 a) hx
        clear HX HO HK HR hk
        have HX := hide hx
        have HO := hide ho
        have HK := hide hd
        have HR := hide hr
        clear hx ho hd hr h3
        go_wp2_with fail
        clear ci fi hl
        obtain ⟨⟨b, s4⟩, h4⟩ : ∃ p, numR s3 = p := ⟨_, rfl⟩
        have HC := hide (rnum_any rb ts s3 _ HR hts HT)
        rw [h4] at HC
        rw [h4] at hI
        dsimp only at HC hI
        refine HC.out.mono ?_
        clear HC
        rintro e wd ⟨rfl, hr, hk⟩
        have hx := (hk.block xb (Array.getElem?_eq_some_iff.1 HX.out).1 (by omega)).trans HX.out
        have ho := own_keep HO.out (fun g hg _ => hk.block g (own_lt HO.out hg).2 (by have := own_lt HO.out hg; omega))
        have hd := (HK.out.trans hk).setCell (p := ⟨xb, 2, none⟩) (.inr hxW) (.int .i64 b)
        have ci := cell_of_row _ _ 2 _ _ _ hx
        have fi := frozen_of_row _ _ 2 _ _ hx
        have hl := (Array.getElem?_eq_some_iff.1 hx).1
        have ho := own_keep ho (w' := wd.setCell ⟨xb, 2, none⟩ (.int .i64 b)) (fun g hg _ => Below.heap_setCell _ _ _ _ (by have := HOg.out g hg; show g ≠ xb; omega))
        have hr := hr.far (p := ⟨xb, 2, none⟩) hrx (.int .i64 b)
        have hx := heap_setCell_same wd xb 2 _ _ (.int .i64 b) hx
        clear HX HO HK HR hk
        have HX := hide hx
        have HO := hide ho
        have HK := hide hd
        have HR := hide hr
        clear hx ho hd hr h4
        go_wp2_with fail
        clear ci fi hl
        obtain ⟨⟨c, s5⟩, h5⟩ : ∃ p, numR s4 = p := ⟨_, rfl⟩
        have HC := hide (rnum_any rb ts s4 _ HR hts HT)
        rw [h5] at HC
        rw [h5] at hI
        dsimp only at HC hI
        refine HC.out.mono ?_
        clear HC
        rintro e wd ⟨rfl, hr, hk⟩
        have hx := (hk.block xb (Array.getElem?_eq_some_iff.1 HX.out).1 (by omega)).trans HX.out
        have ho := own_keep HO.out (fun g hg _ => hk.block g (own_lt HO.out hg).2 (by have := own_lt HO.out hg; omega))
        have hd := (HK.out.trans hk).setCell (p := ⟨xb, 3, none⟩) (.inr hxW) (.int .i64 c)
        have ci := cell_of_row _ _ 3 _ _ _ hx
        have fi := frozen_of_row _ _ 3 _ _ hx
        have hl := (Array.getElem?_eq_some_iff.1 hx).1
        have ho := own_keep ho (w' := wd.setCell ⟨xb, 3, none⟩ (.int .i64 c)) (fun g hg _ => Below.heap_setCell _ _ _ _ (by have := HOg.out g hg; show g ≠ xb; omega))
        have hr := hr.far (p := ⟨xb, 3, none⟩) hrx (.int .i64 c)
        have hx := heap_setCell_same wd xb 3 _ _ (.int .i64 c) hx
        clear HX HO HK HR hk
        have HX := hide hx
        have HO := hide ho
        have HK := hide hd
        have HR := hide hr
        clear hx ho hd hr h5
        go_wp2_with fail
        clear ci fi hl
        obtain ⟨⟨_, s9⟩, h9⟩ : ∃ p, mustR [59] s5 = p := ⟨_, rfl⟩
        have HC := hide (rmust_any rb ⟨#[59]⟩ ts s5 _ HR hts)
        rw [show (⟨#[59]⟩ : ByteArray).data.toList = [59] from rfl, h9] at HC
        rw [h9] at hI
        dsimp only at HC hI
        refine HC.out.mono ?_
        clear HC
        rintro e wd ⟨rfl, hr, hk⟩
        have hx := (hk.block xb (Array.getElem?_eq_some_iff.1 HX.out).1 (by omega)).trans HX.out
        have ho := own_keep HO.out (fun g hg _ => hk.block g (own_lt HO.out hg).2 (by have := own_lt HO.out hg; omega))
        have HK9 := hide (HK.out.trans hk)
        have HO9 := hide ho
        have HR9 := hide hr
        have hsz := HK9.out.size
        obtain ⟨c0, c1, c2, c3, -⟩ := row4 hx rfl
        have HI := hide hI
        clear hr hk hx ho HK HX HO HR h9 hI
        go_wp2_with (first
          | (at_builtin; refine wpList_append_own _ rfl _ _ 62 rfl W.heap.size 60 i0 (.agg #[.int .u8 0, .int .i64 0, .int .i64 0, .int .i64 0]) 4 32 Tryz.underlying62 hi0 hz0 (by assumption) (by assumption) rfl (by decide) _ _ _ rfl (HO9.out.alloc _) ⟨wd.heap.size, 0, none⟩ 1 1 [.int .u8 (N : Int), .int .i64 a, .int .i64 b, .int .i64 c] rfl rfl (news_of (by simp)) (by simp [Value.oneCell']) (by unfold maxLen; omega) (by omega) (by simp; omega) ?_; intro v' w9 hown' hgrow _))
        have hG0 : Below W.heap.size wd w9 := Below.grown ((Below.refl _ wd).alloc hsz _) hgrow (by simp; omega) (fun g hg => (own_lt HO9.out hg).1)
        have hG1 : Kept (fun b => W.heap.size ≤ b) wd w9 := ⟨hG0.os, hG0.tape, hG0.output, hG0.size, fun i _ hn => hG0.block i (by omega)⟩
        have HRn := hide (HR9.out.kept hG1 (fun b hb => by omega))
        have HKn := hide (HK9.out.trans2 hG1 (fun i hi h => by omega))
        have HOn := hide hown'
        clear hG0 hG1 hown' hgrow c0 c1 c2 c3 HR9 HK9 HO9
        try go_wp2_with fail
        go_roundw
        case rel =>
          have hins : insR s1 = (⟨N, a, b, c⟩, s9) := HI.out
          refine ⟨acc ++ [⟨N, a, b, c⟩], s9, f, fun h0 => ?_, by simp; omega, ?_, HRn.out, HKn.out, by simpa [insCells] using HOn.out⟩
          · rcases insR_less s1 (kind_err HK1.out) with h | ⟨_, h⟩
            · rw [hins] at h; exact absurd h0 h
            · rw [hins] at h
              dsimp only at h
              simp
              omega
          · rw [← HC0.out, codeLoopR_step HK1.out, hins]
        case measure =>
          obtain ⟨_, _, rfl⟩ := own_form HOn.out
          simp [lenV]
          omega
end Go.Proofs.YtlngbjphagnloaaGreatDoor
