/-
  nacellelaw09: FormatCodes.
-/
import Derived.Test.YtndpnpohdoggjaaGreatDoorYc
import Derived.Test.YtndpnpohdoggjaaGreatDoorYk
import Derived.Test.YtndpnpohdoggjaaGreatDoorPk21
namespace Go.Proofs.YtndpnpohdoggjaaGreatDoor
open Go.RowKit
attribute [local go_sem] Later.cell
theorem ins_dat {w : World} {B : Nat} {v : Value} {l : List InsD} (h : w.ownsRow B 70 4 v l.length (l.flatMap insCells)) : DAt w (fun _ => True) v (.row 4 (l.map InsD.cells)) :=
  (own_leaf (cells := insCells) (fun _ => rfl) h).mono (fun _ _ _ => trivial)
/-- parse.Code of any source. -/
theorem pc_say (src : ByteArray) (k : List InsD) (at_ er : Nat) (hr : codeP9 (lexR src.data.toList) src.size = (k, at_, er)) (W : World) (hE : Hid (Env W)) (hP : Hid (EnvP W)) :
    Calls Tryz.prog 5 #[.string src] W fun e w' => ∃ v, e = .returned (.tuple #[v, .int .i64 (at_ : Int), .int .i64 (er : Int)]) ∧ Hid (DAt w' (fun _ => True) v (.row 4 (k.map InsD.cells))) ∧ Below W.heap.size W w' := by
  refine (pcode_any src W hE hP).mono ?_
  rintro e w' ⟨v, rfl, hb, ho⟩
  rw [hr] at ho
  exact ⟨v, by rw [hr], hide (ins_dat ho), hb⟩
/-- Lex of any source: how many tokens. -/
theorem lx_say (src : ByteArray) (n : Nat) (hn : (lexR src.data.toList).1.length = n) (W : World) (hE : Hid (Env W)) :
    Calls Tryz.prog 10 #[.string src] W fun e w' => ∃ A c p q, e = .returned (.tuple #[.slice A n c, .int .i64 p, .int .i64 q]) ∧ Below W.heap.size W w' := by
  refine (lex_any src W hE.out).mono ?_
  rintro e w' ⟨v, rfl, ho, -, hb⟩
  obtain ⟨A, c, rfl, -⟩ := trows_own (ts := (lexR src.data.toList).1.map Tok.toZ) ho (by simp)
  exact ⟨A, c, _, _, by rw [hn], hb⟩
def cOb (z : Nat) (lv : Value) : List Obj := [.cells #[.string ⟨#[97]⟩, .int .i64 0, .int .i64 0, .int .i64 0, lv] 31,
  .cells #[.string ⟨#[112]⟩, .int .i64 0, .int .i64 0, .int .i64 0, .slice none 0 0, .int .i64 0, .int .i64 0, .slice none 0 0, .slice none 0 0, .slice (some ⟨z, 0, none⟩) 1 1] 36,
  .cells #[.string ⟨#[109]⟩, .int .i64 0, .int .i64 0, .slice (some ⟨z + 1, 0, none⟩) 1 1] 39,
  .cells #[.slice (some ⟨z + 1 + 1, 0, none⟩) 1 1, .slice none 0 0, .slice none 0 0, .slice none 0 0, .slice none 0 0, .slice none 0 0, .slice none 0 0, .slice none 0 0] 49]
def cVs (z : Nat) : List Value := [.slice (some ⟨z + 1 + 1, 0, none⟩) 1 1, .slice none 0 0, .slice none 0 0, .slice none 0 0, .slice none 0 0, .slice none 0 0, .slice none 0 0, .slice none 0 0]
theorem cfgL_dat {V : World} {z : Nat} {lv : Value} {l : List InsD} (hat : ∀ (i : Nat) o, (cOb z lv)[i]? = some o → V.heap[z + i]? = some o) (hv : DAt V (fun _ => True) lv (.row 4 (l.map InsD.cells))) : DCells V (fun _ => True) (cVs z) (cfgL l).cells := by
  have d0 : DAt V (fun _ => True) (.slice (some ⟨z, 0, none⟩) 1 1) (.row 5 [ProcD.cells ⟨[97], 0, 0, 0, l⟩]) :=
    DAt.block (hat 0 _ rfl) rfl (by simp [ProcD.cells]) (by (show DCells V _ [_, _, _, _, _] _; (repeat (refine DCells.cons ?_ ?_; first | exact .leaf _ | exact hv | exact .nil _ _ _ | assumption)); exact DCells.nil)) trivial
  have d1 : DAt V (fun _ => True) (.slice (some ⟨z + 1, 0, none⟩) 1 1) (.row 10 [PartD.cells ⟨[112], 0, 0, 0, [], 0, 0, [], [], [⟨[97], 0, 0, 0, l⟩]⟩]) :=
    DAt.block (hat 1 _ rfl) rfl (by simp [PartD.cells]) (by ((repeat (refine DCells.cons ?_ ?_; first | exact .leaf _ | exact .nil _ _ _ | assumption)); exact DCells.nil)) trivial
  have d2 : DAt V (fun _ => True) (.slice (some ⟨z + 1 + 1, 0, none⟩) 1 1) (.row 4 ((cfgL l).modules.map ModD.cells)) :=
    DAt.block (hat 2 _ rfl) rfl (by simp [cfgL, ModD.cells]) (by ((repeat (refine DCells.cons ?_ ?_; first | exact .leaf _ | exact .nil _ _ _ | assumption)); exact DCells.nil)) trivial
  ((repeat (refine DCells.cons ?_ ?_; first | exact .leaf _ | exact .nil _ _ _ | assumption)); exact DCells.nil)
theorem cfgL_e {l : List InsD} (hl : l.all insF = true) (hn : l.length ≤ 100) : cfgE (cfgL l) = .tuple #[.string ⟨(cfgT (cfgL l)).toArray⟩, .int .i64 0] := by
  have := cfgL_short hl hn
  unfold cfgE fitsE
  rw [if_pos (by rw [cfgL_f]; exact hl), if_neg (by show ¬ 65536 < (cfgT (cfgL l)).length; omega)]
set_option maxRecDepth 100000 in
set_option maxHeartbeats 4000000 in
theorem formatCodes_true (A : Option Addr) (n c : Nat) (l : List InsD) (src : ByteArray) (W : World) (hln : l.length = n) (hv : Hid (DAt W (fun _ => True) (.slice A n c) (.row 4 (l.map InsD.cells)))) (hop : ∀ x ∈ l, x.op ≤ 255) (hE : Hid (Env W)) (hP : Hid (EnvP W)) :
    Calls Tryz.prog 3 #[.slice A n c, .string src] W fun e w' => e = .returned (.bool true) ∧ Below W.heap.size W w' := by
  have HA := hide (fun V hE hP => awake_any V hE hP)
  by_cases h1 : 100 < n
  · have h1 : (100 : Int) < (n : Int) := by omega
    clear hv hln hop
    go_enter Tryz.func3, Tryz.ntmps3
    go_wp2_with fail
    refine (HA.out _ hE hP).mono ?_
    rintro e w1 ⟨rfl, hb⟩
    have HB := hide hb
    clear hb
    go_wp2_with fail
    go_ret
    exact ⟨rfl, HB.out⟩
  by_cases h2 : 2000 < src.size
  · have h1 : ¬ (100 : Int) < (n : Int) := by omega
    have h2 : (2000 : Int) < (src.size : Int) := by omega
    clear hv hln hop
    go_enter Tryz.func3, Tryz.ntmps3
    go_wp2_with fail
    refine (HA.out _ hE hP).mono ?_
    rintro e w1 ⟨rfl, hb⟩
    have HB := hide hb
    clear hb
    go_wp2_with fail
    go_ret
    exact ⟨rfl, HB.out⟩
  obtain ⟨k1, k2⟩ := p9_fine src.data.toList src.size (by show src.data.size ≤ 2000; have h3 : src.size = src.data.size := rfl; omega)
  have hn1 : l.length ≤ 100 := by omega
  have h3 : ¬ (100 : Int) < (n : Int) := by omega
  have h4 : ¬ (2000 : Int) < (src.size : Int) := by omega
  clear h1 h2
  obtain ⟨k, at_, er, hr⟩ : ∃ k at_ er, codeP9 (lexR src.data.toList) src.size = (k, at_, er) := ⟨_, _, _, rfl⟩
  rw [hr] at k1 k2
  have HC1 := hide (fun V hE hP => pc_say src k at_ er hr V hE hP)
  have hopk : ∀ x ∈ k, x.op ≤ 255 := fun x hx => insF_op (List.all_eq_true.1 k1 x hx)
  have HF1 := hide (fun v V hv hE hP => codesrc_any v k V hv hopk (by have : k.length ≤ 1000 := k2; omega) hE hP)
  rw [codeE_yes k1 k2] at HF1
  have HC2 := hide (fun V hE hP => pc_say ⟨(codesT k).toArray⟩ k 0 0 (p9_back k1 k2 _) V hE hP)
  have HS1 := hide (fun va vb V ha hb => (ks_inss va vb k k V ha hb (by have : k.length ≤ 1000 := k2; omega)).mono (fun _ _ h => SayQ.yes rfl h))
  have HF2 := hide (fun v V hv hE hP => codesrc_any v l V hv hop (by omega) hE hP)
  have hfit := cfgL_fit l hop (by omega)
  have HV := hide (fun us V hE hd hP => f_cfg (cfgL l) us V hE hd hP hfit)
  rw [cfgL_f] at HV
  have HLN := hide hn1
  have HFIT := hide hfit
  generalize hsk : (⟨(codesT k).toArray⟩ : ByteArray) = sk at HF1 HC2
  clear hsk k1 k2 hopk hop hr hn1 hfit
  go_enter Tryz.func3, Tryz.ntmps3
  go_wp2_with fail
  refine (HA.out _ hE hP).mono ?_
  rintro e w1 ⟨rfl, hb⟩
  have HB1 := hide hb
  clear hb HA
  go_wp2_with fail
  clear h3 h4
  refine (HC1.out w1 (hide (hE.out.kept HB1.out)) (hide (hP.out.below HB1.out))).mono ?_
  rintro e w2 ⟨v, rfl, hdv, hb⟩
  have HB2 := hide (HB1.out.trans (hb.mono HB1.out.size))
  clear hb HC1 HB1
  go_wp2_with fail
  refine (HF1.out v w2 hdv (hide (hE.out.kept HB2.out)) (hide (hP.out.below HB2.out))).mono ?_
  rintro e w3 ⟨rfl, hb⟩
  have HB3 := hide (HB2.out.trans (hb.mono HB2.out.size))
  have HDV3 := hide (hdv.out.later hb)
  clear hb HF1 HB2 hdv
  go_wp2_with fail
  refine (HC2.out w3 (hide (hE.out.kept HB3.out)) (hide (hP.out.below HB3.out))).mono ?_
  rintro e w4 ⟨m, rfl, hdm, hb⟩
  have HB4 := hide (HB3.out.trans (hb.mono HB3.out.size))
  have HDV4 := hide (HDV3.out.later hb)
  have HDM4 := hdm
  clear hb HC2 HB3 HDV3 hdm
  by_cases her : er = 0
  · subst her
    go_wp2_with fail
    refine (HS1.out v m w4 HDV4 HDM4).mono ?_
    rintro e w5 ⟨rfl, hb⟩
    have HB5 := hide (HB4.out.trans (hb.mono HB4.out.size))
    clear hb HS1 HB4 HDV4 HDM4
    cases hl : l.all insF with
    | false =>
      rw [codeE_no hl] at HF2
      rw [hl] at HV
      clear hl HLN HFIT
      go_wp2_with fail
      refine (HF2.out _ w5 (hide (hv.out.later HB5.out)) (hide (hE.out.kept HB5.out)) (hide (hP.out.below HB5.out))).mono ?_
      rintro e w6 ⟨rfl, hb⟩
      have HB6 := hide (HB5.out.trans (hb.mono HB5.out.size))
      clear hb HF2 HB5
      go_wp2_with fail
      have hb0 := allocS_below (cOb w6.heap.size (.slice A n c)) w6
      have HT0 := hide (show ∀ (i : Nat) o, (cOb w6.heap.size (.slice A n c))[i]? = some o → (allocS w6 (cOb w6.heap.size (.slice A n c))).heap[w6.heap.size + i]? = some o from fun i o ho => allocS_at _ w6 i o ho)
      change Calls _ _ _ (allocS w6 (cOb w6.heap.size (.slice A n c))) _
      generalize allocS w6 (cOb w6.heap.size (.slice A n c)) = w7 at *
      have HB7 := hide (HB6.out.trans (hb0.mono HB6.out.size))
      clear hb0 HB6
      refine (HV.out (cVs w6.heap.size) w7 (hide (hE.out.kept HB7.out)) (hide (cfgL_dat HT0.out (hv.out.later HB7.out))) (hide (hP.out.below HB7.out))).mono ?_
      rintro e w8 ⟨rfl, hb⟩
      have HB8 := hide (HB7.out.trans (hb.mono HB7.out.size))
      clear hb HV HB7 HT0
      go_wp2_with fail
      go_ret
      exact ⟨rfl, HB8.out⟩
    | true =>
      have hn1 := HLN.out
      rw [codeE_yes hl (by omega)] at HF2
      rw [hl] at HV
      obtain ⟨N, hN1, hN2, hN3, -, -⟩ := lens_both hl hn1
      have HC3 := hide (fun V hE hP => pc_say ⟨(codesT l).toArray⟩ l 0 0 (p9_back hl (by omega) _) V hE hP)
      have HCF := hide (fun us V hE hP hd => config_any (cfgL l) us V hE hP hd HFIT.out (fun _ => by have := cfgL_short hl hn1; omega))
      rw [cfgL_e hl hn1] at HCF
      have HL1 := hide (fun V hE => lx_say ⟨(codesT l).toArray⟩ N hN1 V hE)
      have HL2 := hide (fun V hE => lx_say ⟨(cfgT (cfgL l)).toArray⟩ (N + 28) hN2 V hE)
      have HS2 := hide (fun va vb V ha hb => (ks_inss va vb l l V ha hb (by omega)).mono (fun _ _ h => SayQ.yes rfl h))
      generalize (⟨(codesT l).toArray⟩ : ByteArray) = sl at *
      generalize (⟨(cfgT (cfgL l)).toArray⟩ : ByteArray) = sw at *
      clear hl hn1 HLN HFIT hN1 hN2
      have hnn : (((N + 28 : Nat) : Int) == (N : Int) + 28) = true := by simp
      go_wp2_with fail
      refine (HF2.out _ w5 (hide (hv.out.later HB5.out)) (hide (hE.out.kept HB5.out)) (hide (hP.out.below HB5.out))).mono ?_
      rintro e w6 ⟨rfl, hb⟩
      have HB6 := hide (HB5.out.trans (hb.mono HB5.out.size))
      clear hb HF2 HB5
      go_wp2_with fail
      have hb0 := allocS_below (cOb w6.heap.size (.slice A n c)) w6
      have HT0 := hide (show ∀ (i : Nat) o, (cOb w6.heap.size (.slice A n c))[i]? = some o → (allocS w6 (cOb w6.heap.size (.slice A n c))).heap[w6.heap.size + i]? = some o from fun i o ho => allocS_at _ w6 i o ho)
      change Calls _ _ _ (allocS w6 (cOb w6.heap.size (.slice A n c))) _
      generalize allocS w6 (cOb w6.heap.size (.slice A n c)) = w7 at *
      have HB7 := hide (HB6.out.trans (hb0.mono HB6.out.size))
      clear hb0 HB6
      refine (HV.out (cVs w6.heap.size) w7 (hide (hE.out.kept HB7.out)) (hide (cfgL_dat HT0.out (hv.out.later HB7.out))) (hide (hP.out.below HB7.out))).mono ?_
      rintro e w8 ⟨rfl, hb⟩
      have HB8 := hide (HB7.out.trans (hb.mono HB7.out.size))
      have HT8 := hide (show ∀ (i : Nat) o, (cOb w6.heap.size (.slice A n c))[i]? = some o → w8.heap[w6.heap.size + i]? = some o from fun i o ho => (hb.block _ (Array.getElem?_eq_some_iff.1 (HT0.out i o ho)).1).trans (HT0.out i o ho))
      clear hb HV HB7 HT0
      go_wp2_with fail
      refine (HC3.out w8 (hide (hE.out.kept HB8.out)) (hide (hP.out.below HB8.out))).mono ?_
      rintro e w9 ⟨q, rfl, hdq, hb⟩
      have HB9 := hide (HB8.out.trans (hb.mono HB8.out.size))
      have HT9 := hide (show ∀ (i : Nat) o, (cOb w6.heap.size (.slice A n c))[i]? = some o → w9.heap[w6.heap.size + i]? = some o from fun i o ho => (hb.block _ (Array.getElem?_eq_some_iff.1 (HT8.out i o ho)).1).trans (HT8.out i o ho))
      clear hb HC3 HB8 HT8
      have HXc := hide (HT9.out 3 _ rfl)
      have c0 := cell_of_row _ _ 0 _ _ _ HXc.out
      have c1 := cell_of_row _ _ 1 _ _ _ HXc.out
      have c2 := cell_of_row _ _ 2 _ _ _ HXc.out
      have c3 := cell_of_row _ _ 3 _ _ _ HXc.out
      have c4 := cell_of_row _ _ 4 _ _ _ HXc.out
      have c5 := cell_of_row _ _ 5 _ _ _ HXc.out
      have c6 := cell_of_row _ _ 6 _ _ _ HXc.out
      have c7 := cell_of_row _ _ 7 _ _ _ HXc.out
      go_wp2_with fail
      refine (HCF.out (cVs w6.heap.size) w9 (hide (hE.out.kept HB9.out)) (hide (hP.out.below HB9.out)) (hide (cfgL_dat HT9.out (hv.out.later HB9.out)))).mono ?_
      rintro e w10 ⟨rfl, hb⟩
      have HB10 := hide (HB9.out.trans (hb.mono HB9.out.size))
      have HDQ10 := hide (hdq.out.later hb)
      clear hb HCF HB9 HT9 HXc hdq c0 c1 c2 c3 c4 c5 c6 c7
      go_wp2_with fail
      refine (HL1.out w10 (hide (hE.out.kept HB10.out))).mono ?_
      rintro e w11 ⟨A1, d1, p1, q1, rfl, hb⟩
      have HB11 := hide (HB10.out.trans (hb.mono HB10.out.size))
      have HDQ11 := hide (HDQ10.out.later hb)
      clear hb HL1 HB10 HDQ10
      go_wp2_with fail
      refine (HL2.out w11 (hide (hE.out.kept HB11.out))).mono ?_
      rintro e w12 ⟨A2, d2, p2, q2, rfl, hb⟩
      have HB12 := hide (HB11.out.trans (hb.mono HB11.out.size))
      have HDQ12 := hide (HDQ11.out.later hb)
      clear hb HL2 HB11 HDQ11
      go_wp2_with fail
      refine (HS2.out _ q w12 (hide (hv.out.later HB12.out)) HDQ12).mono ?_
      rintro e w13 ⟨rfl, hb⟩
      have HB13 := hide (HB12.out.trans (hb.mono HB12.out.size))
      clear hb HS2 HB12 HDQ12
      go_wp2_with fail
      go_ret
      exact ⟨rfl, HB13.out⟩
  · have hne : ((er : Int) == 0) = false := by simp; omega
    have HB5 := HB4
    clear her HS1 HB4 HDV4 HDM4
    cases hl : l.all insF with
    | false =>
      rw [codeE_no hl] at HF2
      rw [hl] at HV
      clear hl HLN HFIT
      go_wp2_with fail
      refine (HF2.out _ w4 (hide (hv.out.later HB5.out)) (hide (hE.out.kept HB5.out)) (hide (hP.out.below HB5.out))).mono ?_
      rintro e w6 ⟨rfl, hb⟩
      have HB6 := hide (HB5.out.trans (hb.mono HB5.out.size))
      clear hb HF2 HB5
      go_wp2_with fail
      have hb0 := allocS_below (cOb w6.heap.size (.slice A n c)) w6
      have HT0 := hide (show ∀ (i : Nat) o, (cOb w6.heap.size (.slice A n c))[i]? = some o → (allocS w6 (cOb w6.heap.size (.slice A n c))).heap[w6.heap.size + i]? = some o from fun i o ho => allocS_at _ w6 i o ho)
      change Calls _ _ _ (allocS w6 (cOb w6.heap.size (.slice A n c))) _
      generalize allocS w6 (cOb w6.heap.size (.slice A n c)) = w7 at *
      have HB7 := hide (HB6.out.trans (hb0.mono HB6.out.size))
      clear hb0 HB6
      refine (HV.out (cVs w6.heap.size) w7 (hide (hE.out.kept HB7.out)) (hide (cfgL_dat HT0.out (hv.out.later HB7.out))) (hide (hP.out.below HB7.out))).mono ?_
      rintro e w8 ⟨rfl, hb⟩
      have HB8 := hide (HB7.out.trans (hb.mono HB7.out.size))
      clear hb HV HB7 HT0
      go_wp2_with fail
      go_ret
      exact ⟨rfl, HB8.out⟩
    | true =>
      have hn1 := HLN.out
      rw [codeE_yes hl (by omega)] at HF2
      rw [hl] at HV
      obtain ⟨N, hN1, hN2, hN3, -, -⟩ := lens_both hl hn1
      have HC3 := hide (fun V hE hP => pc_say ⟨(codesT l).toArray⟩ l 0 0 (p9_back hl (by omega) _) V hE hP)
      have HCF := hide (fun us V hE hP hd => config_any (cfgL l) us V hE hP hd HFIT.out (fun _ => by have := cfgL_short hl hn1; omega))
      rw [cfgL_e hl hn1] at HCF
      have HL1 := hide (fun V hE => lx_say ⟨(codesT l).toArray⟩ N hN1 V hE)
      have HL2 := hide (fun V hE => lx_say ⟨(cfgT (cfgL l)).toArray⟩ (N + 28) hN2 V hE)
      have HS2 := hide (fun va vb V ha hb => (ks_inss va vb l l V ha hb (by omega)).mono (fun _ _ h => SayQ.yes rfl h))
      generalize (⟨(codesT l).toArray⟩ : ByteArray) = sl at *
      generalize (⟨(cfgT (cfgL l)).toArray⟩ : ByteArray) = sw at *
      clear hl hn1 HLN HFIT hN1 hN2
      have hnn : (((N + 28 : Nat) : Int) == (N : Int) + 28) = true := by simp
      go_wp2_with fail
      refine (HF2.out _ w4 (hide (hv.out.later HB5.out)) (hide (hE.out.kept HB5.out)) (hide (hP.out.below HB5.out))).mono ?_
      rintro e w6 ⟨rfl, hb⟩
      have HB6 := hide (HB5.out.trans (hb.mono HB5.out.size))
      clear hb HF2 HB5
      go_wp2_with fail
      have hb0 := allocS_below (cOb w6.heap.size (.slice A n c)) w6
      have HT0 := hide (show ∀ (i : Nat) o, (cOb w6.heap.size (.slice A n c))[i]? = some o → (allocS w6 (cOb w6.heap.size (.slice A n c))).heap[w6.heap.size + i]? = some o from fun i o ho => allocS_at _ w6 i o ho)
      change Calls _ _ _ (allocS w6 (cOb w6.heap.size (.slice A n c))) _
      generalize allocS w6 (cOb w6.heap.size (.slice A n c)) = w7 at *
      have HB7 := hide (HB6.out.trans (hb0.mono HB6.out.size))
      clear hb0 HB6
      refine (HV.out (cVs w6.heap.size) w7 (hide (hE.out.kept HB7.out)) (hide (cfgL_dat HT0.out (hv.out.later HB7.out))) (hide (hP.out.below HB7.out))).mono ?_
      rintro e w8 ⟨rfl, hb⟩
      have HB8 := hide (HB7.out.trans (hb.mono HB7.out.size))
      have HT8 := hide (show ∀ (i : Nat) o, (cOb w6.heap.size (.slice A n c))[i]? = some o → w8.heap[w6.heap.size + i]? = some o from fun i o ho => (hb.block _ (Array.getElem?_eq_some_iff.1 (HT0.out i o ho)).1).trans (HT0.out i o ho))
      clear hb HV HB7 HT0
      go_wp2_with fail
      refine (HC3.out w8 (hide (hE.out.kept HB8.out)) (hide (hP.out.below HB8.out))).mono ?_
      rintro e w9 ⟨q, rfl, hdq, hb⟩
      have HB9 := hide (HB8.out.trans (hb.mono HB8.out.size))
      have HT9 := hide (show ∀ (i : Nat) o, (cOb w6.heap.size (.slice A n c))[i]? = some o → w9.heap[w6.heap.size + i]? = some o from fun i o ho => (hb.block _ (Array.getElem?_eq_some_iff.1 (HT8.out i o ho)).1).trans (HT8.out i o ho))
      clear hb HC3 HB8 HT8
      have HXc := hide (HT9.out 3 _ rfl)
      have c0 := cell_of_row _ _ 0 _ _ _ HXc.out
      have c1 := cell_of_row _ _ 1 _ _ _ HXc.out
      have c2 := cell_of_row _ _ 2 _ _ _ HXc.out
      have c3 := cell_of_row _ _ 3 _ _ _ HXc.out
      have c4 := cell_of_row _ _ 4 _ _ _ HXc.out
      have c5 := cell_of_row _ _ 5 _ _ _ HXc.out
      have c6 := cell_of_row _ _ 6 _ _ _ HXc.out
      have c7 := cell_of_row _ _ 7 _ _ _ HXc.out
      go_wp2_with fail
      refine (HCF.out (cVs w6.heap.size) w9 (hide (hE.out.kept HB9.out)) (hide (hP.out.below HB9.out)) (hide (cfgL_dat HT9.out (hv.out.later HB9.out)))).mono ?_
      rintro e w10 ⟨rfl, hb⟩
      have HB10 := hide (HB9.out.trans (hb.mono HB9.out.size))
      have HDQ10 := hide (hdq.out.later hb)
      clear hb HCF HB9 HT9 HXc hdq c0 c1 c2 c3 c4 c5 c6 c7
      go_wp2_with fail
      refine (HL1.out w10 (hide (hE.out.kept HB10.out))).mono ?_
      rintro e w11 ⟨A1, d1, p1, q1, rfl, hb⟩
      have HB11 := hide (HB10.out.trans (hb.mono HB10.out.size))
      have HDQ11 := hide (HDQ10.out.later hb)
      clear hb HL1 HB10 HDQ10
      go_wp2_with fail
      refine (HL2.out w11 (hide (hE.out.kept HB11.out))).mono ?_
      rintro e w12 ⟨A2, d2, p2, q2, rfl, hb⟩
      have HB12 := hide (HB11.out.trans (hb.mono HB11.out.size))
      have HDQ12 := hide (HDQ11.out.later hb)
      clear hb HL2 HB11 HDQ11
      go_wp2_with fail
      refine (HS2.out _ q w12 (hide (hv.out.later HB12.out)) HDQ12).mono ?_
      rintro e w13 ⟨rfl, hb⟩
      have HB13 := hide (HB12.out.trans (hb.mono HB12.out.size))
      clear hb HS2 HB12 HDQ12
      go_wp2_with fail
      go_ret
      exact ⟨rfl, HB13.out⟩
end Go.Proofs.YtndpnpohdoggjaaGreatDoor
