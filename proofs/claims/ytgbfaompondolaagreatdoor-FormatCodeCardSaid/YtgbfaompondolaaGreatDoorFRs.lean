/-
  format: (as in parse) the reference's split, at, find.
-/
import Derived.Test.YtgbfaompondolaaGreatDoorRfP
import Derived.Test.YtgbfaompondolaaGreatDoorPk7
import Derived.Test.YtgbfaompondolaaGreatDoorPk6
import Derived.Test.YtgbfaompondolaaGreatDoorPk1
import Derived.Test.YtgbfaompondolaaGreatDoorPk13
namespace Go.Proofs.YtgbfaompondolaaGreatDoor
open Go.RowKit
theorem own_form {w : World} {base : Nat} {e : TypeId} {size : Nat} {v : Value} {n : Nat} {xs : List Value} (h : w.ownsRow base e size v n xs) : ∃ A c, v = .slice A n c := by
  rcases h.2 with ⟨rfl, rfl⟩ | ⟨g, cap, cur, rfl, _⟩
  · exact ⟨none, 0, rfl⟩
  · exact ⟨_, _, rfl⟩
attribute [local go_sem] Later.cell
/-- A row of texts. -/
def txtV (l : List (List UInt8)) : List Value := l.map fun s => .string ⟨s.toArray⟩
def SplR (w : World) (l : List (List UInt8)) (e : Ending) (w' : World) : Prop := ∃ A q, e = .returned (.slice A l.length q) ∧ w'.ownsRow w.heap.size 9 1 (.slice A l.length q) l.length (txtV l) ∧ Below w.heap.size w w'
set_option maxRecDepth 100000 in
set_option maxHeartbeats 4000000 in
theorem split_any (s : ByteArray) (hs : s.size ≤ 1000000) (w : World) : Calls Tryz.prog 274 #[.string s] w (SplR w (splitS s.data.toList)) := by
  obtain ⟨i0, hi0, hz0, hz1, hz2⟩ := info_parts strInfo
  have hl : s.data.toList.length = s.size := by simp
  go_enter Tryz.func274, Tryz.ntmps274
  go_wp2_with fail
  go_loopw [3, 4, 5] (fun v3 v4 v5 wr => ∃ (i : Nat) (d : List (List UInt8)) (c : List UInt8) (A : Option Addr) (q : Nat), v5 = .int .i64 i ∧ v4 = .int .i64 ((i : Int) - (c.length : Int)) ∧ v3 = .slice A d.length q ∧ wr.ownsRow w.heap.size 9 1 (.slice A d.length q) d.length (txtV d) ∧ Below w.heap.size w wr ∧
      (i ≤ s.size ∧ (s.data.toList.take i).foldl stpW ([], []) = (d, c) ∨ i = s.size + 1 ∧ d = splitS s.data.toList)) (fun _ _ v5 _ => s.size + 2 - (intOf v5).toNat)
  case atStart => exact ⟨0, [], [], none, 0, rfl, rfl, rfl, World.ownsRow_nil _ _ _ _, Below.refl _ _, .inl ⟨by omega, rfl⟩⟩
  case round =>
    obtain ⟨i, d, c, A, q, rfl, rfl, rfl, ho, hbr, hst⟩ := hrel
    have HO := hide ho
    have HBR := hide hbr
    clear ho hbr
    rcases hst with ⟨hi, hf⟩ | ⟨rfl, rfl⟩
    · have hlast := stp_last s.data.toList i (by omega)
      rw [hf] at hlast
      dsimp only at hlast
      have hfew := stp_few (s.data.toList.take i) ([], [])
      rw [hf, List.length_take] at hfew
      simp only [List.length_nil, Nat.zero_add] at hfew
      by_cases hin : i < s.size
      · have hb : s.data.toList[i]? = some (s[i]'hin) := by
          rw [List.getElem?_eq_getElem (by omega)]
          simp
          rfl
        have hnx := stp_take hb
        rw [hf] at hnx
        have e1 : ((i : Int) == (s.size : Int)) = false := by simp; omega
        have i1 : (i : Int) ≤ (s.size : Int) := by omega
        have c1 : (c.length : Int) ≤ (i : Int) := by omega
        by_cases h32 : (s[i]'hin) = 32
        · have e2 : (((s[i]'hin).toNat : Int) == 32) = true := by rw [h32]; rfl
          have HNX := hide (hnx.trans (show stpW (d, c) (s[i]'hin) = (d ++ [c], []) by rw [h32]; rfl))
          have HLC := hide hlast
          clear hf hnx hb h32 hlast
          go_wp2_with (at_builtin; apply Hid.out)
          refine hide ?_
          obtain ⟨X, hX⟩ : ∃ X : ByteArray, s.extract (i - c.length) i = X := ⟨_, rfl⟩
          have HXc := hide (show X = ⟨c.toArray⟩ by
            rw [← hX]
            apply ByteArray.ext
            apply Array.toList_inj.1
            rw [Lib.extract_data, ← List.drop_take]
            exact HLC.out.2)
          rw [hX]
          refine wpList_append_any _ rfl _ _ 63 rfl w.heap.size 9 i0 _ 1 16 Tryz.underlying63 hi0 hz0 hz1 hz2 rfl (by decide) (.slice A d.length q) _ (txtV d) rfl (own_keep HO.out (fun g hg _ => Below.heap_alloc _ _ _ (own_lt HO.out hg).2)) (wr.heap.size + 1) (some ⟨wr.heap.size, 0, none⟩) 1 1 [.string X] rfl ⟨rfl, fun _ => ⟨_, rfl, Nat.lt_succ_self _, fun j u hu => World.news_of_block (heap_alloc_new wr _) j u hu⟩⟩ (by simp [Value.oneCell']) (by unfold maxLen; omega) (by omega) (by have := HBR.out.size; simp; omega) ?_
          intro v5 wz hown hg hat
          obtain ⟨A', q', rfl⟩ := own_form hown
          have HB2 := hide ((HBR.out.alloc HBR.out.size (.cells #[.string X] 9)).grown hg (by have := HBR.out.size; simp; omega) (fun g e => (own_lt HO.out e).1))
          have HO2 := hide (show wz.ownsRow w.heap.size 9 1 (.slice A' (d ++ [c]).length q') (d ++ [c]).length (txtV (d ++ [c])) by
            have e : txtV (d ++ [c]) = txtV d ++ [.string X] := by rw [HXc.out]; simp [txtV]
            rw [e, List.length_append]
            exact hown)
          have hlen : (d ++ [c]).length = d.length + 1 := by simp
          clear hown hg hat
          go_wp2_with fail
          go_roundw
          case rel => exact ⟨i + 1, d ++ [c], [], A', q', by go_num, by simp, by rw [hlen], HO2.out, HB2.out, .inl ⟨by omega, HNX.out⟩⟩
          case measure => simp [intOf]; omega
        · have e2 : (((s[i]'hin).toNat : Int) == 32) = false := by
            simp
            intro h
            have h' : (s[i]'hin).toNat = 32 := by omega
            exact h32 (UInt8.toNat_inj.1 (h'.trans rfl))
          have HNX := hide (hnx.trans (show stpW (d, c) (s[i]'hin) = (d, c ++ [s[i]'hin]) from if_neg h32))
          clear hf hnx hb h32 hlast
          go_wp2_with fail
          go_roundw
          case rel => exact ⟨i + 1, d, _, A, q, by go_num, by simp; omega, rfl, HO.out, HBR.out, .inl ⟨by omega, HNX.out⟩⟩
          case measure => simp [intOf]; omega
      · obtain rfl : i = s.size := by omega
        have HSP := hide (show d ++ [c] = splitS s.data.toList by
          unfold splitS
          rw [List.take_of_length_le (by omega)] at hf
          rw [hf])
        have c1 : (c.length : Int) ≤ (s.size : Int) := by omega
        have HLC := hide hlast
        clear hf hlast
        go_wp2_with (at_builtin; apply Hid.out)
        refine hide ?_
        obtain ⟨X, hX⟩ : ∃ X : ByteArray, s.extract (s.size - c.length) s.size = X := ⟨_, rfl⟩
        have HXc := hide (show X = ⟨c.toArray⟩ by
          rw [← hX]
          apply ByteArray.ext
          apply Array.toList_inj.1
          rw [Lib.extract_data, ← List.drop_take]
          exact HLC.out.2)
        rw [hX]
        refine wpList_append_any _ rfl _ _ 63 rfl w.heap.size 9 i0 _ 1 16 Tryz.underlying63 hi0 hz0 hz1 hz2 rfl (by decide) (.slice A d.length q) _ (txtV d) rfl (own_keep HO.out (fun g hg _ => Below.heap_alloc _ _ _ (own_lt HO.out hg).2)) (wr.heap.size + 1) (some ⟨wr.heap.size, 0, none⟩) 1 1 [.string X] rfl ⟨rfl, fun _ => ⟨_, rfl, Nat.lt_succ_self _, fun j u hu => World.news_of_block (heap_alloc_new wr _) j u hu⟩⟩ (by simp [Value.oneCell']) (by unfold maxLen; omega) (by omega) (by have := HBR.out.size; simp; omega) ?_
        intro v5 wz hown hg hat
        obtain ⟨A', q', rfl⟩ := own_form hown
        have HB2 := hide ((HBR.out.alloc HBR.out.size (.cells #[.string X] 9)).grown hg (by have := HBR.out.size; simp; omega) (fun g e => (own_lt HO.out e).1))
        have HO2 := hide (show wz.ownsRow w.heap.size 9 1 (.slice A' (d ++ [c]).length q') (d ++ [c]).length (txtV (d ++ [c])) by
          have e : txtV (d ++ [c]) = txtV d ++ [.string X] := by rw [HXc.out]; simp [txtV]
          rw [e, List.length_append]
          exact hown)
        have hlen : (d ++ [c]).length = d.length + 1 := by simp
        clear hown hg hat
        rw [HSP.out] at HO2 hlen
        go_wp2_with fail
        go_roundw
        case rel => exact ⟨s.size + 1, splitS s.data.toList, [], A', q', by go_num, by simp, by rw [hlen], HO2.out, HB2.out, .inr ⟨rfl, rfl⟩⟩
        case measure => simp [intOf]
    · have e1 : ¬ (((s.size + 1 : Nat) : Int) ≤ (s.size : Int)) := by omega
      go_wp2_with fail
      go_ret
      exact ⟨A, q, rfl, HO.out, HBR.out⟩
/-- A text of a row, in a later world. -/
theorem txt_at {w w' : World} {base : Nat} {t : TypeId} {l : List (List UInt8)} {A : Option Addr} {q k : Nat} {x : List UInt8} (h : w.ownsRow base t 1 (.slice A l.length q) l.length (txtV l)) (hb : Below w.heap.size w w') (hx : l[k]? = some x) :
    ∃ b, A = some ⟨b, 0, none⟩ ∧ b < w'.heap.size ∧ w'.cell? ⟨b, k, none⟩ = some (.string ⟨x.toArray⟩) := by
  have hk := (List.getElem?_eq_some_iff.1 hx).1
  obtain ⟨g, cap, hv, _, hlt⟩ := h.form (by omega)
  have hA : A = some ⟨g, 0, none⟩ := by injection hv
  subst hA
  refine ⟨g, rfl, Nat.lt_of_lt_of_le hlt hb.size, (hb.cell (p := ⟨g, k, none⟩) hlt).trans ?_⟩
  rw [World.ownsRow.cellAt h k (by omega)]
  unfold txtV
  rw [List.getElem?_map, hx]
  rfl
set_option maxRecDepth 100000 in
set_option maxHeartbeats 4000000 in
theorem at_any (s : ByteArray) (hs : s.size ≤ 1000000) (z : Int) (hz : -1 ≤ z ∧ z ≤ 1000000) (w : World) : Calls Tryz.prog 242 #[.string s, .int .i64 z] w fun e w' => e = .returned (.string ⟨(if z < 0 then [] else (splitS s.data.toList).getD z.toNat []).toArray⟩) ∧ Below w.heap.size w w' := by
  have HS := hide (split_any s hs w)
  have hln : (splitS s.data.toList).length ≤ 1000001 := by
    have := stp_few s.data.toList ([], [])
    unfold splitS
    simp at this ⊢
    omega
  generalize splitS s.data.toList = l at *
  have hcase : z < 0 ∨ 0 ≤ z ∧ (l.length : Int) ≤ z ∨ ∃ k : Nat, z = k ∧ k < l.length := by
    by_cases h0 : z < 0
    · exact .inl h0
    · by_cases h1 : (l.length : Int) ≤ z
      · exact .inr (.inl ⟨by omega, h1⟩)
      · exact .inr (.inr ⟨z.toNat, by omega, by omega⟩)
  rcases hcase with h | ⟨h, h'⟩ | ⟨k, rfl, hk⟩
  · rw [if_pos h]
    go_enter Tryz.func242, Tryz.ntmps242
    go_wp2_with fail
    refine HS.out.mono ?_
    rintro e w1 ⟨A, q, rfl, -, hb⟩
    have HB := hide hb
    clear hb
    go_wp2_with fail
    go_ret
    exact ⟨rfl, HB.out⟩
  · rw [if_neg (by omega), show l.getD z.toNat [] = [] by rw [List.getD_eq_getElem?_getD, List.getElem?_eq_none (by omega)]; rfl]
    go_enter Tryz.func242, Tryz.ntmps242
    go_wp2_with fail
    refine HS.out.mono ?_
    rintro e w1 ⟨A, q, rfl, -, hb⟩
    have HB := hide hb
    clear hb
    go_wp2_with fail
    go_ret
    exact ⟨rfl, HB.out⟩
  · have hx : l[k]? = some (l.getD k []) := by rw [List.getD_eq_getElem?_getD, List.getElem?_eq_getElem hk]; rfl
    rw [if_neg (by omega), Int.toNat_natCast]
    generalize l.getD k [] = x at *
    have k0 : (0 : Int) ≤ (k : Int) := by omega
    have k1 : (k : Int) < (l.length : Int) := by omega
    go_enter Tryz.func242, Tryz.ntmps242
    go_wp2_with fail
    refine HS.out.mono ?_
    rintro e w1 ⟨A, q, rfl, ho, hb⟩
    obtain ⟨b, rfl, hb1, hc⟩ := txt_at ho (Below.refl _ _) hx
    have HB := hide hb
    clear hb ho hx
    go_wp2_with fail
    go_ret
    exact ⟨rfl, HB.out⟩
end Go.Proofs.YtgbfaompondolaaGreatDoor
