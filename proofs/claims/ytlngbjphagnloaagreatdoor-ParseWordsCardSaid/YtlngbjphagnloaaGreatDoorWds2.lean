/-
  parse: ParseWords returns true.
-/
import Derived.Test.YtlngbjphagnloaaGreatDoorPk28
import Derived.Test.YtlngbjphagnloaaGreatDoorWds1
namespace Go.Proofs.YtlngbjphagnloaaGreatDoor
open Go.RowKit
attribute [local go_sem] Later.cell
def wordsB (F L D : ByteArray) : ByteArray := ⟨#[111, 110, 32]⟩ ++ F ++ ⟨#[32, 108, 101, 118, 101, 108, 32]⟩ ++ L ++ ⟨#[32, 100, 111, 32]⟩ ++ D ++ ⟨#[59]⟩
theorem wordsB_list (f l d : List UInt8) : (wordsB ⟨f.toArray⟩ ⟨l.toArray⟩ ⟨d.toArray⟩).data.toList = wordsL f l d := by
  unfold wordsB wordsL
  simp [ByteArray.data_append]
theorem wordsB_size (f l d : List UInt8) : (wordsB ⟨f.toArray⟩ ⟨l.toArray⟩ ⟨d.toArray⟩).size = (wordsL f l d).length := by
  rw [← wordsB_list, Array.length_toList]
  rfl
theorem words_call (f l d : List UInt8) (c : CfgD) (at_ er : Nat) (h : parseT (lexR (wordsL f l d)) (wordsL f l d).length = (c, at_, er)) (W : World) (hE : Hid (Env W)) (hP : Hid (EnvP W)) :
    Calls Tryz.prog 11 #[.string (wordsB ⟨f.toArray⟩ ⟨l.toArray⟩ ⟨d.toArray⟩)] W (ParseC W c at_ er) := by
  refine parse_call _ c at_ er ?_ W hE hP
  rw [wordsB_list, wordsB_size]
  exact h
set_option maxRecDepth 100000 in
set_option maxHeartbeats 4000000 in
theorem words_any (f l d : Nat) (hf : f ≤ 255) (hl : l ≤ 255) (hd : d ≤ 255) (W : World) (hE : Hid (Env W)) (hP : Hid (EnvP W)) : Calls Tryz.prog 5 #[.int .u8 (f : Int), .int .u8 (l : Int), .int .u8 (d : Int)] W fun e w' => e = .returned (.bool true) ∧ Below W.heap.size W w' := by
  have hwf := wcase (ws := faultWords) (by decide) f 7 rfl 7 rfl
  have hwl := wcase (ws := levelWords) (by decide) l 3 rfl 3 rfl
  have hwd := wcase (ws := actionWords) (by decide) d 8 rfl 8 rfl
  have zf := word_len (ws := faultWords) (by decide) f
  have zl := word_len (ws := levelWords) (by decide) l
  have zd := word_len (ws := actionWords) (by decide) d
  have HFA := hide (fun w h => fault_any f w h hf)
  have HLE := hide (fun w h => level_any l w h hl)
  have HAC := hide (fun w h => action_any d w h hd)
  have HOK := hide (fun h1 h2 h3 => words_call _ _ _ _ _ _ (words_ok f l d h1 h2 h3))
  have HNO := hide (fun h0 => let ⟨a, ha⟩ := words_no f l d h0; (⟨a, words_call _ _ _ _ _ _ ha⟩ : ∃ at_, ∀ W, Hid (Env W) → Hid (EnvP W) → Calls Tryz.prog 11 #[.string (wordsB ⟨(wordN faultWords f).toArray⟩ ⟨(wordN levelWords l).toArray⟩ ⟨(wordN actionWords d).toArray⟩)] W (ParseC W CfgD.none at_ 80)))
  generalize (⟨(wordN faultWords f).toArray⟩ : ByteArray) = F at *
  generalize (⟨(wordN levelWords l).toArray⟩ : ByteArray) = L at *
  generalize (⟨(wordN actionWords d).toArray⟩ : ByteArray) = D at *
  unfold wordsB at HOK HNO
  go_enter Tryz.func5, Tryz.ntmps5
  go_wp2_with fail
  refine (awake_any W hE hP).mono ?_
  rintro e w1 ⟨rfl, hb1⟩
  have HE1 := hide (hE.out.kept hb1)
  have HP1 := hide (hP.out.below hb1)
  have HB1 := hide hb1
  clear hb1
  go_wp2_with fail
  refine (HFA.out w1 HP1.out).mono ?_
  rintro e w2 ⟨rfl, hb2⟩
  have HP2 := hide (HP1.out.below hb2)
  go_wp2_with fail
  refine (HLE.out w2 HP2.out).mono ?_
  rintro e w3 ⟨rfl, hb3⟩
  have HP3 := hide (HP2.out.below hb3)
  go_wp2_with fail
  refine (HAC.out w3 HP3.out).mono ?_
  rintro e w4 ⟨rfl, hb4⟩
  have HP4 := hide (HP3.out.below hb4)
  have hb34 := hb2.trans ((hb3.trans (hb4.mono hb3.size)).mono hb2.size)
  have HE4 := hide (HE1.out.kept hb34)
  have HB4 := hide (HB1.out.trans (hb34.mono HB1.out.size))
  have s1 : ¬ 9223372036854775807 < 3 + F.size := by omega
  have s2 : ¬ 9223372036854775807 < 3 + F.size + 7 := by omega
  have s3 : ¬ 9223372036854775807 < 3 + F.size + 7 + L.size := by omega
  have s4 : ¬ 9223372036854775807 < 3 + F.size + 7 + L.size + 4 := by omega
  have s5 : ¬ 9223372036854775807 < 3 + F.size + 7 + L.size + 4 + D.size := by omega
  have s6 : ¬ 9223372036854775807 < 3 + F.size + 7 + L.size + 4 + D.size + 1 := by omega
  clear hb2 hb3 hb4 hb34 HP2 HP3 HE1 HP1 HB1 HFA HLE HAC
  have hG : (1 ≤ (f : Int) ∧ (f : Int) ≤ 7) ∧ (1 ≤ (l : Int) ∧ (l : Int) ≤ 3) ∧ (1 ≤ (d : Int) ∧ (d : Int) ≤ 8) ∨ ∃ at_, ∀ W, Hid (Env W) → Hid (EnvP W) → Calls Tryz.prog 11 #[.string (⟨#[111, 110, 32]⟩ ++ F ++ ⟨#[32, 108, 101, 118, 101, 108, 32]⟩ ++ L ++ ⟨#[32, 100, 111, 32]⟩ ++ D ++ ⟨#[59]⟩)] W (ParseC W CfgD.none at_ 80) := by
    by_cases h : (1 ≤ f ∧ f ≤ 7) ∧ (1 ≤ l ∧ l ≤ 3) ∧ (1 ≤ d ∧ d ≤ 8)
    · exact .inl (by omega)
    · exact .inr (HNO.out (by omega))
  have HG := hide hG
  clear hG HNO
  rcases hwf with ⟨rfl, a1⟩ | ⟨rfl, a1, a2⟩ | ⟨e1, a1, a2⟩ <;> rcases hwl with ⟨rfl, a3⟩ | ⟨rfl, a3, a4⟩ | ⟨e2, a3, a4⟩ <;> rcases hwd with ⟨rfl, a5⟩ | ⟨rfl, a5, a6⟩ | ⟨e3, a5, a6⟩
  rotate_right
  · clear HG
    have HG := hide (HOK.out (by omega) (by omega) (by omega))
    clear HOK
    go_wp2_with fail
    refine (HG.out w4 HE4 HP4).mono ?_
    rintro e w5 ⟨A5, q5, rfl, hb5, hD5⟩
    have HB5 := hide (HB4.out.trans (hb5.mono HB4.out.size))
    have HD5 := hide hD5
    rw [show (cfgVal A5 q5 (rowC f l d)).toArray = #[.slice (A5 0) 0 (q5 0), .slice (A5 1) 0 (q5 1), .slice (A5 2) 0 (q5 2), .slice (A5 3) 0 (q5 3), .slice (A5 4) 0 (q5 4), .slice (A5 5) 1 (q5 5), .slice (A5 6) 0 (q5 6), .slice (A5 7) 0 (q5 7)] from rfl]
    obtain ⟨A, q, hv, hR⟩ := DAt.slice ((HD5.out.2 5 _ _ rfl rfl).mono (fun _ _ _ => trivial))
    obtain ⟨b, off, hA, hbl, hc⟩ := DRow.at_ (l := (rowC f l d).health) (cells := HealthD.cells) (k := 0) hR rfl
    injection hv with hv1 hv2 hv3
    have hA5 := hv1.trans hA
    rw [hA5]
    have g0 : w5.cell? ⟨b, off, none⟩ = some (.string ⟨#[]⟩) := (hc 0 _ rfl).leafc
    have g1 : w5.cell? ⟨b, off + 1, none⟩ = some (.string ⟨#[]⟩) := (hc 1 _ rfl).leafc
    have g2 : w5.cell? ⟨b, off + 2, none⟩ = some (.int .u8 (f : Int)) := (hc 2 _ rfl).leafc
    have g3 : w5.cell? ⟨b, off + 3, none⟩ = some (.int .u8 (l : Int)) := (hc 3 _ rfl).leafc
    have g4 : w5.cell? ⟨b, off + 4, none⟩ = some (.int .u8 (d : Int)) := (hc 4 _ rfl).leafc
    clear hb5 hD5 HB4 HE4 HP4 HG HD5 hR hA hc hv1 hv2 hv3 hA5
    go_wp2_with fail
    go_ret
    exact ⟨rfl, HB5.out.alloc HB5.out.size _⟩
  all_goals as_aux_lemma =>
    rcases HG.out with h | ⟨at_, hg⟩
    · omega
    have HGG := hide hg
    clear HG HOK hg
    go_wp2_with fail
    refine (HGG.out w4 HE4 HP4).mono ?_
    rintro e w5 ⟨A5, q5, rfl, hb5, -⟩
    have HB5 := hide (HB4.out.trans (hb5.mono HB4.out.size))
    rw [show (cfgVal A5 q5 CfgD.none).toArray = #[.slice (A5 0) 0 (q5 0), .slice (A5 1) 0 (q5 1), .slice (A5 2) 0 (q5 2), .slice (A5 3) 0 (q5 3), .slice (A5 4) 0 (q5 4), .slice (A5 5) 0 (q5 5), .slice (A5 6) 0 (q5 6), .slice (A5 7) 0 (q5 7)] from rfl]
    clear hb5 HB4 HE4 HP4 HGG
    go_wp2_with fail
    go_ret
    exact ⟨rfl, HB5.out.alloc HB5.out.size _⟩
theorem words_int (f l d : Int) (f0 : 0 ≤ f) (f1 : f ≤ 255) (l0 : 0 ≤ l) (l1 : l ≤ 255) (d0 : 0 ≤ d) (d1 : d ≤ 255) (W : World) (hE : Hid (Env W)) (hP : Hid (EnvP W)) : Calls Tryz.prog 5 #[.int .u8 f, .int .u8 l, .int .u8 d] W fun e w' => e = .returned (.bool true) ∧ Below W.heap.size W w' := by
  obtain ⟨f, rfl⟩ := Int.eq_ofNat_of_zero_le f0
  obtain ⟨l, rfl⟩ := Int.eq_ofNat_of_zero_le l0
  obtain ⟨d, rfl⟩ := Int.eq_ofNat_of_zero_le d0
  exact words_any f l d (by omega) (by omega) (by omega) W hE hP
end Go.Proofs.YtlngbjphagnloaaGreatDoor
