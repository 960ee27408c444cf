/-
  HealthRenamed: the walk.
-/
import Derived.Test.YtojmcgobihegpaaRen1
import Derived.Deep.RegionWith
import Derived.Deep.AppendLies
namespace Go.Proofs.Ytojmcgobihegpaa
open Go.RowKit
theorem news_at (W : World) (t : TypeId) (cs : Array Value) (b : Nat) (hb : b = W.heap.size) : ∀ j u, cs.toList[j]? = some u → (W.alloc (.cells cs t)).drew.cell? ((⟨b, 0, none⟩ : Addr).add j) = some u := by
  subst hb
  exact World.news_of_block (cs := cs) (t := t) (fr := (0, 0)) (heap_alloc_new W _)
theorem flat_step (a b : ByteArray) (rs : List HRow) (k : Nat) (r : HRow) (h : rs[k]? = some r) : flat (List.map (swapR a b) (List.take k rs)) ++ (swapR a b r).cells.toList = flat ((rs.take (k + 1)).map (swapR a b)) := by
  rw [← flat_snoc]
  congr 1
  obtain ⟨hk, rfl⟩ := List.getElem?_eq_some_iff.1 h
  rw [List.take_succ_eq_append_getElem hk, List.map_append]
  rfl
set_option maxRecDepth 100000 in
set_option maxHeartbeats 4000000 in
theorem ren_main (A : Option Addr) (n cap : Nat) (rs : List HRow) (m p a b : ByteArray) (f : Int) (w : World) (hn : n ≤ 9223372036854775807) (HL : Hid (rs.length = n)) (hR : Hid (HRows w.heap.size w A rs)) (hf : n ≤ 64)
    (ha : a.toList.isEmpty = false) (hb : b.toList.isEmpty = false) :
    Calls Try.prog 9 #[.slice A n cap, .string m, .string p, .string a, .string b, .int .u8 f] w fun e w' => e = .returned (.bool true) ∧ Below w.heap.size w w' := by
  obtain ⟨i0, hi0, hz0, hz1, hz2⟩ := info_parts rowInfo
  have HROW := hide (swap_row ha hb rs m p f)
  have hmf : ∀ (fn : Fn) (first cap : Array Value) (w : World), (Instr.makeFunc fn first cap).run Try.prog w = .ok (.func fn first cap) w := fun _ _ _ _ => rfl
  go_enter Try.func9, Try.ntmps9
  go_wp2_with (go_at_call 10; refine (few_any _ _ _ _).mono ?_; rintro e w' ⟨rfl, rfl⟩)
  go_loopw [14, 36] (fun v14 v36 wr => ∃ k : Nat, k ≤ n ∧ v36 = .int .i64 k ∧ wr.ownsRow (w.heap.size + 2) 36 5 v14 k (flat ((rs.take k).map (swapR a b))) ∧
      Below (w.heap.size + 2) ((w.alloc (.cells #[.string a] 9)).alloc (.cells #[.string b] 9)) wr)
    (fun _ v36 _ => n - (intOf v36).toNat)
  case atStart => exact ⟨0, by omega, rfl, World.ownsRow_nil _ _ _ _, Below.refl _ _⟩
  case round =>
    obtain ⟨k, hk, rfl, hown, hbr⟩ := hrel
    have xa := hbr.cell (p := ⟨w.heap.size, 0, none⟩) (by simp)
    have xb := hbr.cell (p := ⟨w.heap.size + 1, 0, none⟩) (by simp)
    simp [go_sem] at xa xb
    have hwb := hide (Below.trans (((Below.refl _ w).alloc (Nat.le_refl _) (.cells #[.string a] 9)).alloc (by simp) (.cells #[.string b] 9)) (hbr.mono (by omega)))
    by_cases hlt : k < n
    case neg =>
      obtain rfl : k = n := by omega
      have htk : rs.take k = rs := List.take_of_length_le (by have := HL.out; omega)
      have HO : (∃ a' cap', u14 = .slice a' k cap' ∧ Hid (HRows wr.heap.size wr a' (rs.map (swapR a b)))) := by
        rw [htk] at hown
        refine hrows_own hown (by rw [List.length_map]; exact HL.out) ?_
        intro r hr
        obtain ⟨r0, hr0, rfl⟩ := List.mem_map.1 hr
        obtain ⟨i, hi, he⟩ := List.getElem_of_mem hr0
        rcases hR.out with h | ⟨bl, off, _, _, hc⟩
        · rw [h] at hr0; simp at hr0
        · exact (hc i r0 (by rw [List.getElem?_eq_getElem hi, he])).1
      obtain ⟨a2, cap2, hu, HR2⟩ := HO
      subst hu
      have hz := hbr.size
      simp at hz
      clear hown htk hbr
      have HR1 := HRows.next hR hwb.out
      go_wp2_with fail
      refine (row_any _ k cap rs m p f wr hn HL HR1).mono ?_
      rintro e w1 ⟨rfl, hb1⟩
      have ya := ((bcell hb1).1 w.heap.size 0 (by omega)).trans xa
      have yb := ((bcell hb1).1 (w.heap.size + 1) 0 (by omega)).trans xb
      have HR3 := HRows.next HR2 hb1
      have HB1 := hide (bstep hwb.out hb1)
      clear xa xb hb1
      go_wp2_with (first
        | (go_at_call 22; refine (swap_any a b _ _ _ w1 ya yb).mono ?_; rintro e w' ⟨rfl, rfl⟩))
      refine (row_any _ k cap2 (rs.map (swapR a b)) (swapS a b m) (swapS a b p) f w1 hn (by show _ = _; rw [List.length_map]; exact HL.out) HR3).mono ?_
      rintro e w2 ⟨rfl, hb2⟩
      rw [HROW.out.1, HROW.out.2]
      go_wp2_with (go_at_call 11; refine (awake_any _).mono ?_; rintro e w' ⟨rfl, hb3⟩)
      go_ret
      exact ⟨rfl, bstep (bstep HB1.out hb2) hb3⟩
    case pos =>
      rcases hR.out with h | ⟨bl, off, rfl, hbb, hc⟩
      · exfalso; have := HL.out; rw [h] at this; simp at this; omega
      obtain ⟨r, hr, hok, q0, q1, q2, q3, q4⟩ := rs_at hbb HL hc (fun o => hwb.out.cell (p := ⟨bl, o, none⟩) hbb) hlt
      clear hc
      have HBR := hide hbr
      have HOW := hide hown
      have hz := hbr.size
      simp at hz
      have hza : w.heap.size < wr.heap.size := by omega
      have hzb : w.heap.size + 1 < wr.heap.size := by omega
      have HFL := hide (flat_step a b rs k r hr.out)
      clear hbr hown
      obtain ⟨rm, rp, rf, rl, rd⟩ := r
      simp only at q0 q1 q2 q3 q4
      simp only [swapR, HRow.cells] at HFL
      go_wp2
      go_region_with (first
        | (go_at_call 22; refine (swap_any a b _ _ _ _ (by simp [go_sem, xa, hza]) (by simp [go_sem, xb, hzb])).mono ?_; rintro e w' ⟨rfl, rfl⟩))
      all_goals
        go_wp2_with (first
          | (at_builtin; refine wpList_append_own _ rfl _ _ 22 rfl (w.heap.size + 2) 36 i0 _ 5 40 Try.underlying22 hi0 hz0 hz1 hz2 rfl (by decide) _ _ _ rfl ((HOW.out.alloc _).alloc _) ⟨wr.heap.size + 1, 0, none⟩ 1 1 [.string (swapS a b rm), .string (swapS a b rp), .int .u8 rf, .int .u8 rl, .int .u8 rd] rfl rfl (news_at (wr.alloc _) _ _ _ (by simp)) (by simp [Value.oneCell']) (by unfold maxLen; omega) (by omega) (by simp; omega) ?_; intro v' w1 hown' hgrow _))
        rw [HFL.out] at hown'
        have hg1 : Below (w.heap.size + 2) wr w1 := by
          refine Below.grown ((((Below.refl _ wr).alloc (by omega) _).alloc (by simp; omega) _).drew) hgrow (by simp; omega) (fun g hg => ?_)
          exact (HOW.out.lt g hg).1
        have HG := hide hg1
        have HO := hide hown'
        clear hg1 hown' hgrow
        try go_wp2
        go_roundw
        case rel => exact ⟨k + 1, by omega, by go_num, HO.out, HBR.out.trans HG.out⟩
        case measure => simp [intOf]; omega
set_option maxRecDepth 100000 in
set_option maxHeartbeats 1000000 in
theorem ren_any (A : Option Addr) (n cap : Nat) (rs : List HRow) (m p a b : ByteArray) (f : Int) (w : World) (hn : n ≤ 9223372036854775807) (HL : Hid (rs.length = n)) (hR : Hid (HRows w.heap.size w A rs)) :
    Calls Try.prog 9 #[.slice A n cap, .string m, .string p, .string a, .string b, .int .u8 f] w fun e w' => e = .returned (.bool true) ∧ Below w.heap.size w w' := by
  by_cases hf : n ≤ 64
  case neg =>
    go_enter Try.func9, Try.ntmps9
    go_wp2_with (first
      | (go_at_call 10; refine (few_any _ _ _ _).mono ?_; rintro e w' ⟨rfl, rfl⟩)
      | (go_at_call 11; refine (awake_any _).mono ?_; rintro e w' ⟨rfl, hb⟩))
    go_ret
    exact ⟨rfl, (((Below.refl _ w).alloc (Nat.le_refl _) _).alloc (by simp) _).trans (hb.mono (by simp; omega))⟩
  case pos =>
    cases ha : a.toList.isEmpty
    · cases hb : b.toList.isEmpty
      · exact ren_main A n cap rs m p a b f w hn HL hR hf ha hb
      · go_enter Try.func9, Try.ntmps9
        go_wp2_with (first
          | (go_at_call 10; refine (few_any _ _ _ _).mono ?_; rintro e w' ⟨rfl, rfl⟩)
          | (go_at_call 11; refine (awake_any _).mono ?_; rintro e w' ⟨rfl, hb⟩))
        go_ret
        exact ⟨rfl, (((Below.refl _ w).alloc (Nat.le_refl _) _).alloc (by simp) _).trans (hb.mono (by simp; omega))⟩
    · go_enter Try.func9, Try.ntmps9
      go_wp2_with (first
        | (go_at_call 10; refine (few_any _ _ _ _).mono ?_; rintro e w' ⟨rfl, rfl⟩)
        | (go_at_call 11; refine (awake_any _).mono ?_; rintro e w' ⟨rfl, hb⟩))
      go_ret
      exact ⟨rfl, (((Below.refl _ w).alloc (Nat.le_refl _) _).alloc (by simp) _).trans (hb.mono (by simp; omega))⟩
end Go.Proofs.Ytojmcgobihegpaa
