/-
  lex: awake: the examples of the chapter.
-/
import Derived.Test.YteghlkcgeadoaaaDoorCalls
namespace Go.Proofs.YteghlkcgeadoaaaDoor
open Go.RowKit
def exSrc : ByteArray := ⟨#[118, 108, 32, 118, 49, 32, 98, 97, 103, 32, 50, 48, 48, 59, 32, 35, 32, 116, 119, 111]⟩
def exToks : List Tok := [⟨1, [118, 108], 0⟩, ⟨1, [118, 49], 3⟩, ⟨1, [98, 97, 103], 6⟩, ⟨2, [50, 48, 48], 10⟩, ⟨3, [59], 13⟩]
theorem ex_lex : lexR [118, 108, 32, 118, 49, 32, 98, 97, 103, 32, 50, 48, 48, 59, 32, 35, 32, 116, 119, 111] = (exToks, 0, 0) := by kernel_rfl
theorem ex_bad1 : lexR [97, 32, 95, 98] = ([], 2, 70) := by kernel_rfl
theorem ex_bad2 : lexR [55, 32, 48, 48, 55] = ([], 2, 72) := by kernel_rfl
theorem ex_bad3 : lexR [120, 32, 50, 98] = ([], 2, 72) := by kernel_rfl
theorem ex_join : joinS (exToks.map Tok.toZ) = ⟨#[118, 108, 32, 118, 49, 32, 98, 97, 103, 32, 50, 48, 48, 32, 59]⟩ := by kernel_rfl
theorem ex_pl1 : plN ⟨#[97, 98, 10, 99, 100, 10, 101]⟩ (clampN ⟨#[97, 98, 10, 99, 100, 10, 101]⟩ 5) = (2, 3) := by kernel_rfl
theorem ex_pl2 : plN ⟨#[97, 98, 10, 99, 100, 10, 101]⟩ (clampN ⟨#[97, 98, 10, 99, 100, 10, 101]⟩ 6) = (3, 1) := by kernel_rfl
def offsZ : List Int := [0, 3, 6, 10, 13]
theorem ex_at (k : Nat) (hk : k < 5) (t : TokZ) (h : (exToks.map Tok.toZ)[k]? = some t) (c : Value) (hc : (#[Value.int .i64 0, .int .i64 3, .int .i64 6, .int .i64 10, .int .i64 13] : Array Value)[k]? = some c) : c = .int .i64 t.at_ := by
  rcases (by omega : k = 0 ∨ k = 1 ∨ k = 2 ∨ k = 3 ∨ k = 4) with rfl | rfl | rfl | rfl | rfl
  all_goals
    simp [exToks, Tok.toZ] at h hc
    subst h hc
    rfl
theorem five_at (k : Nat) (hk : k < 5) : ∃ c, (#[Value.int .i64 0, .int .i64 3, .int .i64 6, .int .i64 10, .int .i64 13] : Array Value)[k]? = some c := ⟨_, Array.getElem?_eq_getElem (by simpa using hk)⟩
set_option maxRecDepth 100000 in
set_option maxHeartbeats 2000000 in
theorem awake_any (w : World) (hE : Hid (Env w)) : Calls Tryd.prog 7 #[] w fun e w' => e = .returned (.bool true) ∧ Below w.heap.size w w' := by
  have HL0 := hide (fun w hE => lex_at exSrc exToks 5 0 0 rfl ex_lex w hE)
  have HL1 := hide (fun w hE => lex_at ⟨#[97, 32, 95, 98]⟩ [] 0 2 70 rfl ex_bad1 w hE)
  have HL2 := hide (fun w hE => lex_at ⟨#[55, 32, 48, 48, 55]⟩ [] 0 2 72 rfl ex_bad2 w hE)
  have HL3 := hide (fun w hE => lex_at ⟨#[120, 32, 50, 98]⟩ [] 0 2 72 rfl ex_bad3 w hE)
  have HP1 := hide (fun w => place_any ⟨#[97, 98, 10, 99, 100, 10, 101]⟩ 5 w (by decide))
  have HP2 := hide (fun w => place_any ⟨#[97, 98, 10, 99, 100, 10, 101]⟩ 6 w (by decide))
  rw [ex_pl1] at HP1
  rw [ex_pl2] at HP2
  have HJs : Hid ((joinT (exToks.map Tok.toZ)).length ≤ 140737488355328) := by
    have e : (joinS (exToks.map Tok.toZ)).size = 15 := by rw [ex_join]; rfl
    rw [joinS_size] at e
    show _ ≤ _
    omega
  go_enter Tryd.func7, Tryd.ntmps7
  go_wp2_with fail
  refine (HL0.out _ hE.out).mono ?_
  rintro e w1 ⟨A1, c1, rfl, hT1, hb1⟩
  have HT1 := hide hT1
  have HB1 := hide hb1
  clear hT1 hb1
  go_wp2_with fail
  have HX := hide (heap_alloc_new w1 (.cells #[.int .i64 0, .int .i64 3, .int .i64 6, .int .i64 10, .int .i64 13] 3))
  have HB2 := hide (HB1.out.trans ((((Below.refl _ w1).alloc (Nat.le_refl _) (.cells #[.int .i64 0, .int .i64 3, .int .i64 6, .int .i64 10, .int .i64 13] 3))).mono HB1.out.size))
  have HT2 := hide (HT1.out.below ((Below.refl _ w1).alloc (Nat.le_refl _) (.cells #[.int .i64 0, .int .i64 3, .int .i64 6, .int .i64 10, .int .i64 13] 3)))
  generalize w1.alloc (.cells #[.int .i64 0, .int .i64 3, .int .i64 6, .int .i64 10, .int .i64 13] 3) = w2 at *
  have HLen : Hid ((exToks.map Tok.toZ).length = 5) := rfl
  have hJ := join_call A1 5 c1 (exToks.map Tok.toZ) w2 HLen (by omega) HT2 HJs
  rw [ex_join] at hJ
  refine hJ.mono ?_
  rintro e w3 ⟨rfl, hb3⟩
  have HX3 := hide (keepB HX.out hb3)
  have HT3 := hide (HT2.out.below hb3)
  have HB3 := hide (HB2.out.trans (hb3.mono HB2.out.size))
  clear hJ hb3 HT1 HT2 HX
  go_wp2_with fail
  go_loopw [5] (fun v5 wr => ∃ k : Nat, k ≤ 5 ∧ v5 = .int .i64 k ∧ Below w3.heap.size w3 wr) (fun v5 _ => 5 - (intOf v5).toNat)
  case atStart => exact ⟨0, by omega, rfl, Below.refl _ _⟩
  case round =>
    obtain ⟨k, hk, rfl, hbr⟩ := hrel
    have HBR := hide hbr
    clear hbr
    by_cases hlt : k < 5
    case pos =>
      obtain ⟨b, off, t, rfl, hbb, ht, q0, q1, q2⟩ := trow_at HLen HT3 HBR.out hlt
      obtain ⟨c, hc⟩ := five_at k hlt
      have hce := ex_at k hlt t ht.out c hc
      have hx := keepB HX3.out HBR.out
      have r0 := cell_of_row wr w1.heap.size k _ _ _ hx
      have hl := (Array.getElem?_eq_some_iff.1 hx).1
      rw [hc, hce] at r0
      have hz := HBR.out.size
      obtain ⟨tk, tx, ta⟩ := t
      simp only at q0 q1 q2 r0
      have k0 : (0 : Int) ≤ (k : Int) := by omega
      have k1 : (k : Int) < 5 := by omega
      have l1 : b < wr.heap.size := by omega
      clear hc hce hx
      go_wp2_with fail
      go_quiet (fail)
      go_wp2_with fail
      go_roundw
      case rel => exact ⟨k + 1, by omega, by go_num, below_drewN HBR.out _⟩
      case measure => simp [intOf]; omega
    case neg =>
      obtain rfl : k = 5 := by omega
      have HB4 := hide (HB3.out.trans (HBR.out.mono HB3.out.size))
      clear HX3 HT3
      go_wp2_with fail
      refine (HL1.out _ (hE.out.kept HB4.out)).mono ?_
      rintro e w5 ⟨A5, c5, rfl, -, hb⟩
      have HB5 := hide (HB4.out.trans (hb.mono HB4.out.size))
      clear hb
      go_wp2_with fail
      refine (HL2.out _ (hE.out.kept HB5.out)).mono ?_
      rintro e w6 ⟨A6, c6, rfl, -, hb⟩
      have HB6 := hide (HB5.out.trans (hb.mono HB5.out.size))
      clear hb
      go_wp2_with fail
      refine (HL3.out _ (hE.out.kept HB6.out)).mono ?_
      rintro e w7 ⟨A7, c7, rfl, -, hb⟩
      have HB7 := hide (HB6.out.trans (hb.mono HB6.out.size))
      clear hb
      go_wp2_with fail
      refine (HP1.out _).mono ?_
      rintro e w' ⟨rfl, rfl⟩
      go_wp2_with fail
      refine (HP2.out _).mono ?_
      rintro e w' ⟨rfl, rfl⟩
      go_wp2_with fail
      go_ret
      exact ⟨rfl, HB7.out⟩
end Go.Proofs.YteghlkcgeadoaaaDoor
