/-
  format: the reference's Code.
-/
import Derived.Test.YtgbfaompondolaaGreatDoorFRf
namespace Go.Proofs.YtgbfaompondolaaGreatDoor
open Go.RowKit
attribute [local go_sem] Later.cell
theorem codeE_no {l : List InsD} {k : Nat} {x : InsD} (h : l[k]? = some x) (hF : insF x = false) : codeE l = .tuple #[.string ⟨#[]⟩, .int .i64 2] := by
  unfold codeE
  rw [if_neg (by rw [all_stop h hF]; decide)]
set_option maxRecDepth 100000 in
set_option maxHeartbeats 4000000 in
theorem rcode9_any (v : Value) (l : List InsD) (W : World) (hv : Hid (DAt W (fun _ => True) v (.row 4 (l.map InsD.cells)))) (hop : ∀ x ∈ l, x.op ≤ 255) (hn : l.length ≤ 1000000) :
    Calls Tryz.prog 23 #[v] W fun e w' => e = .returned (codeE l) ∧ Below W.heap.size W w' := by
  obtain ⟨A, c, rfl, hA⟩ := hv.out.slice
  have HA := hide hA
  clear hA hv
  rw [List.length_map]
  go_enter Tryz.func23, Tryz.ntmps23
  go_wp2_with fail
  go_loopw [4, 5] (fun v4 v5 wr => ∃ (k : Nat) (S : ByteArray), k ≤ l.length ∧ v5 = .int .i64 k ∧ v4 = .string S ∧ S.data.toList = Lib.join ((l.take k).map insT) [32] ∧ S.size ≤ 51 * k ∧ (l.take k).all insF = true ∧ Below W.heap.size W wr) (fun _ v5 _ => l.length - (intOf v5).toNat)
  case atStart => exact ⟨0, _, by omega, rfl, rfl, by simp [Lib.join_nil], by decide, by simp, Below.refl _ _⟩
  case round =>
    obtain ⟨k, S, hk, rfl, rfl, hS, hsz, ht, hbr⟩ := hrel
    have HS := hide hS
    have HT := hide ht
    have HBR := hide hbr
    clear hS ht hbr
    by_cases hlt : k < l.length
    rotate_left
    · obtain rfl : k = l.length := by omega
      rw [List.take_length] at HS HT
      have hE : codeE l = fitsE S := by
        unfold codeE
        rw [if_pos HT.out]
        congr 1
        apply ByteArray.ext
        apply Array.toList_inj.1
        rw [HS.out]
        rfl
      have HE := hide hE
      clear hE hlt
      by_cases h : 65536 < S.size
      · have h1 : (65536 : Int) < (S.size : Int) := by omega
        have HX := hide (HE.out.trans (show fitsE S = .tuple #[.string ⟨#[]⟩, .int .i64 3] from if_pos h))
        clear h
        go_wp2_with fail
        go_ret2
        exact ⟨by rw [HX.out]; rfl, HBR.out⟩
      · have h1 : ¬ (65536 : Int) < (S.size : Int) := by omega
        have HX := hide (HE.out.trans (show fitsE S = .tuple #[.string S, .int .i64 0] from if_neg h))
        clear h
        go_wp2_with fail
        go_ret2
        exact ⟨by rw [HX.out]; rfl, HBR.out⟩
    obtain ⟨x, hx⟩ : ∃ x, l[k]? = some x := ⟨_, List.getElem?_eq_getElem hlt⟩
    obtain ⟨b, off, rfl, hb, hca⟩ := HA.out.at_ hx
    obtain ⟨u0, c0, g0⟩ := hca 0 _ rfl
    obtain ⟨u1, c1, g1⟩ := hca 1 _ rfl
    obtain ⟨u2, c2, g2⟩ := hca 2 _ rfl
    obtain ⟨u3, c3, g3⟩ := hca 3 _ rfl
    clear hca
    obtain rfl := g0.leaf_eq
    obtain rfl := g1.leaf_eq
    obtain rfl := g2.leaf_eq
    obtain rfl := g3.leaf_eq
    have HC0 := hide c0
    have HC1 := hide c1
    have HC2 := hide c2
    have HC3 := hide c3
    have c0 := (HBR.out.cell (p := ⟨b, off + k * 4, none⟩) hb).trans HC0.out
    have c1 := (HBR.out.cell (p := ⟨b, off + k * 4 + 1, none⟩) hb).trans HC1.out
    have c2 := (HBR.out.cell (p := ⟨b, off + k * 4 + 2, none⟩) hb).trans HC2.out
    have c3 := (HBR.out.cell (p := ⟨b, off + k * 4 + 3, none⟩) hb).trans HC3.out
    have k0 : (0 : Int) ≤ (k : Int) ∧ (k : Int) < ((l.length : Nat) : Int) := by omega
    have hopx := hop x (List.mem_of_getElem? hx)
    have HX := hide hx
    have HI := hide (rins_any x hopx wr)
    clear hx
    go_wp2_with fail
    clear c0 c1 c2 c3
    cases hF : insF x with
    | false =>
      have HN := hide (codeE_no HX.out hF)
      rw [hF] at HI
      clear hF
      refine HI.out.mono ?_
      rintro e w1 ⟨rfl, hb1⟩
      have HB1 := hide (HBR.out.trans (hb1.mono HBR.out.size))
      clear hb1 HI
      go_wp2_with fail
      go_ret2
      exact ⟨by rw [HN.out]; rfl, HB1.out⟩
    | true =>
      have HFx := hide hF
      have hln := insT_len hF
      have HTK := hide (all_step HT.out HX.out hF)
      rw [hF] at HI
      clear hF
      refine HI.out.mono ?_
      rintro e w1 ⟨rfl, hb1⟩
      have HB1 := hide (HBR.out.trans (hb1.mono HBR.out.size))
      clear hb1 HI
      have c0 := (HB1.out.cell (p := ⟨b, off + k * 4, none⟩) hb).trans HC0.out
      have c1 := (HB1.out.cell (p := ⟨b, off + k * 4 + 1, none⟩) hb).trans HC1.out
      have c2 := (HB1.out.cell (p := ⟨b, off + k * 4 + 2, none⟩) hb).trans HC2.out
      have c3 := (HB1.out.cell (p := ⟨b, off + k * 4 + 3, none⟩) hb).trans HC3.out
      have HL := hide (rline_any x hopx w1 HFx.out)
      have HJ := hide (join_step insT l k x HX.out)
      by_cases hk0 : k = 0
      · subst hk0
        have hs1 : ¬ 9223372036854775807 < S.size + (insT x).length := by omega
        simp only [Nat.zero_mul, Nat.add_zero] at c0 c1 c2 c3
        go_wp2_with fail
        clear c0 c1 c2 c3
        refine HL.out.mono ?_
        rintro e w2 ⟨rfl, hb2⟩
        have HB2 := hide (HB1.out.trans (hb2.mono HB1.out.size))
        clear hb2 HL
        go_wp2_with fail
        go_roundw
        case rel => exact ⟨1, _, by omega, by go_num, rfl, by rw [ByteArray.data_append, Array.toList_append, HS.out, show (1 : Nat) = 0 + 1 from rfl, HJ.out]; simp, by rw [ByteArray.size_append]; show _ + (insT x).length ≤ _; omega, HTK.out, HB2.out⟩
        case measure => simp [intOf]; omega
      · have hk1 : (0 : Int) < (k : Int) := by omega
        have hs0 : ¬ 9223372036854775807 < S.size + 1 := by omega
        have hs1 : ¬ 9223372036854775807 < S.size + 1 + (insT x).length := by omega
        go_wp2_with fail
        clear c0 c1 c2 c3
        refine HL.out.mono ?_
        rintro e w2 ⟨rfl, hb2⟩
        have HB2 := hide (HB1.out.trans (hb2.mono HB1.out.size))
        clear hb2 HL
        go_wp2_with fail
        go_roundw
        case rel => exact ⟨k + 1, _, by omega, by go_num, rfl, by rw [ByteArray.data_append, ByteArray.data_append, Array.toList_append, Array.toList_append, HS.out, HJ.out, if_neg hk0], by rw [ByteArray.size_append, ByteArray.size_append]; show _ + 1 + (insT x).length ≤ _; omega, HTK.out, HB2.out⟩
        case measure => simp [intOf]; omega
end Go.Proofs.YtgbfaompondolaaGreatDoor
