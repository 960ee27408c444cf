/-
  lex: Join.
-/
import Derived.Test.YtlngbjphagnloaaGreatDoorPk2
import Derived.Test.YtlngbjphagnloaaGreatDoorShelf
namespace Go.Proofs.YtlngbjphagnloaaGreatDoor
open Go.RowKit
theorem texts_step (ts : List TokZ) (k : Nat) (t : TokZ) (h : ts[k]? = some t) : ((ts.take k).map fun t => Value.string t.text) ++ [.string t.text] = (ts.take (k + 1)).map fun t => Value.string t.text := by
  obtain ⟨hk, rfl⟩ := List.getElem?_eq_some_iff.1 h
  rw [List.take_succ_eq_append_getElem hk, List.map_append]
  rfl
set_option maxRecDepth 100000 in
set_option maxHeartbeats 1000000 in
theorem join_any (A : Option Addr) (n cap : Nat) (ts : List TokZ) (w : World) (HL : Hid (ts.length = n)) (hn : n ≤ 1048576) (hR : Hid (TRows .u8 w A ts)) (hj : Hid ((joinT ts).length ≤ 140737488355328)) :
    Calls Tryz.prog 33 #[.slice A n cap] w fun e w' => e = .returned (.string ⟨(joinT ts).toArray⟩) ∧ Below w.heap.size w w' := by
  obtain ⟨i0, hi0, hz0, hz1, hz2⟩ := info_parts strInfo
  have HJ : Hid (∀ (v : Value) (W : World), W.ownsRow w.heap.size 9 1 v n (ts.map fun t => .string t.text) → ∃ a c, v = .slice a n c ∧ Calls Tryz.prog 54 #[.slice a n c, .string ⟨#[32]⟩] W fun e w' => e = .returned (.string ⟨(joinT ts).toArray⟩) ∧ Below W.heap.size W w') := by
    intro v W h
    rcases h.2 with ⟨rfl, rfl⟩ | ⟨g, c, cur, rfl, _, hg, hnc, _⟩
    · refine ⟨none, 0, rfl, (Tryz.strings_Join_none none 0 ⟨#[32]⟩ W).mono ?_⟩
      rintro e w' ⟨rfl, rfl⟩
      have := List.eq_nil_of_length_eq_zero HL.out
      subst this
      exact ⟨rfl, Below.refl _ _⟩
    · have hll : (ts.map (·.text)).length = n := by simpa using HL.out
      have hmm : (ts.map (·.text)).map (·.data.toList) = ts.map (·.text.data.toList) := by rw [List.map_map]; rfl
      refine ⟨_, c, rfl, ?_⟩
      have := Tryz.strings_Join g 0 c (ts.map (·.text)) ⟨#[32]⟩ W (fun j x hx => by
        have hjn : j < n := by rw [← hll]; exact (List.getElem?_eq_some_iff.1 hx).1
        have hc := World.ownsRow.cellAt h j (by omega)
        rw [Nat.zero_add, hc, List.getElem?_map]
        rw [List.getElem?_map] at hx
        obtain ⟨t, ht, rfl⟩ := Option.map_eq_some_iff.1 hx
        rw [ht]; rfl) (Array.getElem?_eq_some_iff.1 hg).1 (by omega) (by omega) (by
          have e := hj.out
          unfold joinT at e
          rw [hmm]; exact e)
      rw [hll, hmm] at this
      exact this
  go_enter Tryz.func33, Tryz.ntmps33
  go_wp2_with fail
  go_loopw [3, 8] (fun v3 v8 wr => ∃ k : Nat, k ≤ n ∧ v8 = .int .i64 k ∧ wr.ownsRow w.heap.size 9 1 v3 k ((ts.take k).map fun t => .string t.text) ∧ Below w.heap.size w wr) (fun _ v8 _ => n - (intOf v8).toNat)
  case atStart => exact ⟨0, by omega, rfl, World.ownsRow_nil _ _ _ _, Below.refl _ _⟩
  case round =>
    obtain ⟨k, hk, rfl, hown, hbr⟩ := hrel
    have HOW := hide hown
    have HBR := hide hbr
    have hz := hbr.size
    clear hown hbr
    by_cases hlt : k < n
    case neg =>
      obtain rfl : k = n := by omega
      have HO : Hid (wr.ownsRow w.heap.size 9 1 u3 k (ts.map fun t => .string t.text)) := by
        have := HOW.out
        rwa [List.take_of_length_le (by rw [HL.out]; omega)] at this
      obtain ⟨a, c, hu, hC⟩ := HJ.out _ _ HO.out
      have HC := hide hC
      subst hu
      clear hC HOW HO
      go_wp2_with fail
      refine HC.out.mono ?_
      rintro e w2 ⟨rfl, hb⟩
      have HB := hide (HBR.out.trans (hb.mono HBR.out.size))
      clear hb
      go_wp2_with fail
      go_ret
      exact ⟨rfl, HB.out⟩
    case pos =>
      obtain ⟨b, off, t, rfl, hbb, ht, q0, q1, q2⟩ := trow_at HL hR HBR.out hlt
      have hbr' : b < wr.heap.size := by omega
      have HS := hide (texts_step ts k t ht.out)
      obtain ⟨tk, tx, ta⟩ := t
      simp only at q0 q1 q2
      simp only at HS
      go_wp2_with (first
        | (at_builtin; refine wpList_append_own _ rfl _ _ 70 rfl w.heap.size 9 i0 (.string ⟨#[]⟩) 1 16 Tryz.underlying70 hi0 hz0 hz1 hz2 rfl (by decide) _ _ _ rfl ((HOW.out.alloc _).alloc _) ⟨wr.heap.size + 1, 0, none⟩ 1 1 [.string tx] rfl rfl (news_of (by simp)) (by simp [Value.oneCell']) (by unfold maxLen; omega) (by omega) (by simp; omega) ?_; intro v' w1 hown' hgrow _))
      rw [HS.out] at hown'
      have HG : Hid (Below w.heap.size wr w1) := hide (Below.grown (((Below.refl _ wr).alloc (by omega) _).alloc (by simp; omega) _) hgrow (by simp; omega) (fun g hg => (HOW.out.lt g hg).1))
      have HO := hide hown'
      clear hown' hgrow
      try go_wp2
      go_roundw
      case rel => exact ⟨k + 1, by omega, by go_num, HO.out, HBR.out.trans HG.out⟩
      case measure => simp [intOf]; omega
end Go.Proofs.YtlngbjphagnloaaGreatDoor
