/-
  lex: lexes: the program's Lex agrees with the reference's on every source.
-/
import Derived.Test.YteghlkcgeadoaaaDoorCalls
namespace Go.Proofs.YteghlkcgeadoaaaDoor
open Go.RowKit
set_option maxRecDepth 100000 in
set_option maxHeartbeats 2000000 in
theorem lexes_any (src : ByteArray) (w : World) (hE : Hid (Env w)) : Calls Tryd.prog 4 #[.string src] w fun e w' => e = .returned (.bool true) ∧ Below w.heap.size w w' := by
  have HL := hide (fun w hE => lex_call src w hE)
  have HR := hide (fun w => rlex_call src w)
  have HK := hide (kindOk src.data.toList)
  have HS := hide (joinT_small src.data.toList)
  have HN := hide (show (toksZ src.data.toList).length = (lexR src.data.toList).1.length by simp [toksZ])
  have hn := (lex_ok src.data.toList).count.1
  generalize toksZ src.data.toList = ts at *
  generalize (lexR src.data.toList).1.length = n at *
  generalize ((lexR src.data.toList).2.1 : Int) = p at *
  generalize ((lexR src.data.toList).2.2 : Int) = er at *
  go_enter Tryd.func4, Tryd.ntmps4
  go_wp2_with fail
  refine (HL.out _ hE.out).mono ?_
  rintro e w1 ⟨A1, c1, rfl, hT1, hb1⟩
  have HT1 := hide hT1
  have HB1 := hide hb1
  clear hT1 hb1
  go_wp2_with fail
  refine (HR.out _).mono ?_
  rintro e w2 ⟨A2, c2, rfl, hT2, hb2⟩
  have HT2 := hide hT2
  have HB2 := hide (HB1.out.trans (hb2.mono HB1.out.size))
  have HT3 := hide (HT1.out.below hb2)
  clear hT2 hb2 HT1
  go_wp2_with fail
  refine (theirs_any A1 n c1 ts _ HN (by omega) HT3 HK).mono ?_
  rintro e w3 ⟨A3, c3, rfl, hT4, hb3⟩
  have HT4 := hide hT4
  have HB3 := hide (HB2.out.trans (hb3.mono HB2.out.size))
  have HT5 := hide (HT3.out.below hb3)
  have HT6 := hide (HT2.out.below hb3)
  clear hT4 hb3 HT2 HT3
  have HJ := hide (join_call A1 n c1 ts w3 HN (by omega) HT5 HS)
  have HRJ := hide (fun (w : World) (h : Below w3.heap.size w3 w) => rjoin_any A2 n c2 ts w HN (by omega) (hide (HT6.out.below h)) HS)
  go_wp2_with (first
    | (go_at_call 11; refine HJ.out.mono ?_; rintro e w4 ⟨rfl, hb4⟩; have HB4 := hide hb4; clear hb4)
    | (go_at_call 12; refine (HRJ.out _ HB4.out).mono ?_; rintro e w' ⟨rfl, rfl⟩))
  have HB5 := hide (HB3.out.trans (HB4.out.mono HB3.out.size))
  have HT7 := hide (HT4.out.below HB4.out)
  have HT8 := hide (HT6.out.below HB4.out)
  clear HJ HRJ HT5 HT6 HT4
  go_loopw [10] (fun v10 wr => ∃ k : Nat, k ≤ n ∧ v10 = .int .i64 k ∧ Below w4.heap.size w4 wr) (fun v10 _ => n - (intOf v10).toNat)
  case atStart => exact ⟨0, by omega, rfl, Below.refl _ _⟩
  case round =>
    obtain ⟨k, hk, rfl, hbr⟩ := hrel
    have HBR := hide hbr
    clear hbr
    by_cases hlt : k < n
    case neg =>
      go_wp2_with fail
      go_ret
      exact ⟨rfl, HB5.out.trans (HBR.out.mono HB5.out.size)⟩
    case pos =>
      obtain ⟨b, off, t, rfl, hbb, ht, q0, q1, q2⟩ := trow_at HN HT7 HBR.out hlt
      obtain ⟨b', off', t', rfl, hbb', ht', r0, r1, r2⟩ := trow_at HN HT8 HBR.out hlt
      have hz := HBR.out.size
      have e : t = t' := Option.some.inj (ht.out.symm.trans ht'.out)
      subst e
      obtain ⟨tk, tx, ta⟩ := t
      simp only at q0 q1 q2 r0 r1 r2
      have k0 : (0 : Int) ≤ (k : Int) := by omega
      have k1 : (k : Int) < (n : Int) := by omega
      have l1 : b < wr.heap.size := by omega
      have l2 : b' < wr.heap.size := by omega
      go_wp2_with fail
      go_quiet (fail)
      go_wp2_with fail
      go_roundw
      case rel => exact ⟨k + 1, by omega, by go_num, below_drewN HBR.out _⟩
      case measure => simp [intOf]; omega
end Go.Proofs.YteghlkcgeadoaaaDoor
