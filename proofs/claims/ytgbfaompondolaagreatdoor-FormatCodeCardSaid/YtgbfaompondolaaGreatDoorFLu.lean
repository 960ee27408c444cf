/-
  nacellekit: LentInss.
-/
import Derived.Test.YtgbfaompondolaaGreatDoorFLt
namespace Go.Proofs.YtgbfaompondolaaGreatDoor
open Go.RowKit
attribute [local go_sem] Later.cell
def insMs (n : Nat) : List InsD := (List.range n).map fun i : Nat => insM (i : Int)
theorem insMs_succ (n : Nat) : insMs (n + 1) = insMs n ++ [insM n] := by
  unfold insMs
  rw [List.range_succ, List.map_append]
  rfl
theorem insMs_len (n : Nat) : (insMs n).length = n := by simp [insMs]
def insR (l : List InsD) : List Value := (l.map insVs).flatten
theorem insR_len (l : List InsD) : (insR l).length = l.length * 4 := by
  induction l with
  | nil => rfl
  | cons a l ih =>
    simp only [insR, List.map_cons, List.flatten_cons, List.length_append, List.length_cons] at ih ⊢
    rw [ih]
    show 4 + _ = _
    omega
theorem insR_app (l m : List InsD) : insR (l ++ m) = insR l ++ insR m := by simp [insR]
theorem insR_at {l : List InsD} {j : Nat} {u : Value} (h : (insR l)[j]? = some u) : ∃ x, l[j / 4]? = some x ∧ (insVs x)[j % 4]? = some u := by
  have hj : j < l.length * 4 := by rw [← insR_len]; exact (List.getElem?_eq_some_iff.1 h).1
  have hi : j / 4 < l.length := by omega
  refine ⟨_, List.getElem?_eq_getElem hi, ?_⟩
  have e := flat_at (size := 4) (l.map insVs) (fun e he => by obtain ⟨x, _, rfl⟩ := List.mem_map.1 he; rfl) (j / 4) (j % 4) (insVs l[j / 4]) (by rw [List.getElem?_map, List.getElem?_eq_getElem hi]; rfl) (by omega)
  rw [← e, show j / 4 * 4 + j % 4 = j by omega]
  exact h
theorem ins_reads {w : World} {A : Option Addr} {n q : Nat} {l : List InsD} (h : DAt w (fun _ => True) (.slice A n q) (.row 4 (l.map InsD.cells))) : Reads w w.heap.size 4 A n (insR l) := by
  generalize hd : Dat.row 4 (l.map InsD.cells) = d at h
  generalize hv : Value.slice A n q = v at h
  cases h with
  | leaf v => cases hd
  | nil A' c size =>
    injection hd with _ h1
    injection hv with _ h2
    subst h2
    have : l = [] := by simpa using h1
    subst this
    exact ⟨rfl, fun h => absurd h (by omega)⟩
  | row b off c size m es val hn hG hb hc hdd =>
    injection hd with h0 h1
    injection hv with h2 h3 h4
    subst h0 h1 h2 h3 h4
    have hl : l.length = n := by rw [← hn]; simp
    refine ⟨by rw [insR_len, hl], fun _ => ⟨_, rfl, hb, fun j u hu => ?_⟩⟩
    obtain ⟨x, hx, hr⟩ := insR_at hu
    have he : (l.map InsD.cells)[j / 4]? = some (InsD.cells x) := by rw [List.getElem?_map, hx]; rfl
    have hd : (InsD.cells x)[j % 4]? = some (.leaf u) := by
      rw [show InsD.cells x = (insVs x).map Dat.leaf from rfl, List.getElem?_map, hr]
      rfl
    have h5 := hc _ _ _ _ he hd
    have h6 := (hdd _ _ _ _ he hd).leaf_eq
    rw [h6, show off + j / 4 * 4 + j % 4 = off + j by omega] at h5
    refine Eq.trans ?_ h5
    congr 1
    unfold Addr.add
    split
    · rename_i h; rw [h]; rfl
    · simp
theorem insInfo : (Tryz.prog.info? 78).map (fun i => (i.zero, i.size, i.bytes)) = some (some (.agg #[.int .u8 0, .int .i64 0, .int .i64 0, .int .i64 0]), 4, 32) := by kernel_rfl
theorem make_inss (n : Nat) (h : n ≤ 1000000) (W : World) : (Instr.makeSlice 35 (.int .i64 0) (.int .i64 ((n : Int) + 12))).run Tryz.prog W = .ok (.slice (some ⟨W.heap.size, 0, none⟩) 0 (n + 12)) (W.alloc (.cells (madeCells (Value.cells (.agg #[.int .u8 0, .int .i64 0, .int .i64 0, .int .i64 0])) ((n + 12) * 4)) 78)) := by
  obtain ⟨i0, hi, hz0, hz1, hz2⟩ := info_parts insInfo
  have := run_make (P := Tryz.prog) W 35 78 i0 (.agg #[.int .u8 0, .int .i64 0, .int .i64 0, .int .i64 0]) Tryz.underlying35 hi hz0 .i64 .i64 0 ((n : Int) + 12) (by omega) (by omega) (by rw [hz2]; omega) (by omega)
  rw [hz1, show ((n : Int) + 12).toNat = n + 12 by omega] at this
  exact this
set_option maxRecDepth 100000 in
set_option maxHeartbeats 2000000 in
theorem lentInss_any (v : Value) (l : List InsD) (w : World) (hv : Hid (DAt w (fun _ => True) v (.row 4 (l.map InsD.cells)))) (hn : l.length ≤ 1000000) :
    Calls Tryz.prog 22 #[v] w fun e w' => ∃ g c, e = .returned (.slice (some ⟨g, 0, none⟩) l.length c) ∧ w'.ownsRow w.heap.size 78 4 (.slice (some ⟨g, 0, none⟩) (l.length + 12) c) (l.length + 12) (insR (l ++ insMs 12)) ∧ l.length + 12 ≤ c ∧ Below w.heap.size w w' := by
  obtain ⟨i0, hi0, hz0, hz1, hz2⟩ := info_parts insInfo
  obtain ⟨A, q, rfl, -⟩ := hv.out.slice
  rw [List.length_map] at hv ⊢
  have hmk := fun W => make_inss l.length hn W
  have HOW0 := hide (World.ownsRow_made (base := w.heap.size) (e := 78) (size := 4) w (madeCells (Value.cells (.agg #[.int .u8 0, .int .i64 0, .int .i64 0, .int .i64 0])) ((l.length + 12) * 4)) (l.length + 12) (Nat.le_refl _) (by unfold maxLen; omega) (by simp [madeCells]))
  have HRD := hide (ins_reads (hv.out.later ((Below.refl w.heap.size w).alloc (Nat.le_refl _) (.cells (madeCells (Value.cells (.agg #[.int .u8 0, .int .i64 0, .int .i64 0, .int .i64 0])) ((l.length + 12) * 4)) 78))))
  have HON : Hid (∀ u ∈ insR l, u.oneCell' = true) := hide (fun u hu => by
    unfold insR at hu
    obtain ⟨e, he, hu⟩ := List.mem_flatten.1 hu
    obtain ⟨x, _, rfl⟩ := List.mem_map.1 he
    simp only [insVs, List.mem_cons, List.not_mem_nil, or_false] at hu
    rcases hu with rfl | rfl | rfl | rfl <;> rfl)
  go_enter Tryz.func22, Tryz.ntmps22
  go_wp2_with (at_builtin; apply Hid.out)
  refine hide ?_
  refine wpList_append_any _ rfl _ _ 35 rfl w.heap.size 78 i0 _ 4 32 Tryz.underlying35 hi0 hz0 hz1 hz2 rfl (by decide) _ 0 [] rfl HOW0.out _ A l.length q (insR l) rfl HRD.out HON.out (by unfold maxLen; omega) (by omega) (by simp) ?_
  intro v1 w1 hown1 hg1 _
  have hb1 : Below w.heap.size w w1 := ((Below.refl _ _).alloc (Nat.le_refl _) _).grown hg1 (by simp) (fun r hr => (HOW0.out.lt r hr).1)
  have HO1 := hide (show w1.ownsRow w.heap.size 78 4 v1 (l.length + 0) (insR (l ++ insMs 0)) by simpa [insMs, insR] using hown1)
  have HB1 := hide hb1
  clear hown1 hb1 hg1 hmk HOW0 HRD hv HON
  go_wp2_with fail
  go_loopw [3, 4] (fun v3 v4 wr => ∃ k : Nat, k ≤ 12 ∧ v4 = .int .i64 k ∧ wr.ownsRow w.heap.size 78 4 v3 (l.length + k) (insR (l ++ insMs k)) ∧ Below w.heap.size w wr) (fun _ v4 _ => 12 - (intOf v4).toNat)
  case atStart => exact ⟨0, by omega, rfl, HO1.out, HB1.out⟩
  case round =>
    obtain ⟨k, hk, rfl, hown, hbr⟩ := hrel
    have HOW := hide hown
    have HBR := hide hbr
    clear hown hbr HO1 HB1
    by_cases hlt : k < 12
    · have HM := hide (markIns_any (k : Int) wr (by omega) (by omega))
      generalize hm : mkI 1 (k : Int) = m at HM
      have hm2 := hide hm
      clear hm
      go_wp2_with fail
      refine HM.out.mono ?_
      rintro e w3 ⟨rfl, hb3⟩
      have HB3 := hide (HBR.out.trans (hb3.mono HBR.out.size))
      have HO3 := hide (own_keep HOW.out (fun g hg hbg => hb3.block g (own_lt HOW.out hg).2))
      have hz3 := HB3.out.size
      clear hb3 HM
      go_wp2_with (first
        | (at_builtin; refine wpList_append_own _ rfl _ _ 35 rfl w.heap.size 78 i0 _ 4 32 Tryz.underlying35 hi0 hz0 hz1 hz2 rfl (by decide) _ _ _ rfl (HO3.out.alloc _) ⟨w3.heap.size, 0, none⟩ 1 1 [.int .u8 0, .int .i64 m, .int .i64 0, .int .i64 0] rfl rfl (news_of (by simp)) (by simp [Value.oneCell']) (by unfold maxLen; omega) (by omega) (by simp; exact Nat.le_succ_of_le hz3) ?_; intro v' w5 hown' hgrow _))
      have HB5 := hide (HB3.out.trans (Below.grown ((Below.refl _ w3).alloc hz3 _) hgrow (by simp; exact Nat.le_succ_of_le hz3) (fun g hg => (own_lt HO3.out hg).1)))
      have HO5 := hide (show w5.ownsRow w.heap.size 78 4 v' (l.length + (k + 1)) (insR (l ++ insMs (k + 1))) by
        rw [insMs_succ, ← List.append_assoc, insR_app (l ++ insMs k), show insR [insM (k : Int)] = [.int .u8 0, .int .i64 (mkI 1 (k : Int)), .int .i64 0, .int .i64 0] from rfl, hm2.out]
        exact hown')
      clear hown' hgrow
      go_wp2_with fail
      go_roundw
      case rel => exact ⟨k + 1, by omega, by go_num, HO5.out, HB5.out⟩
      case measure => simp [intOf]; omega
    · obtain rfl : k = 12 := by omega
      rcases HOW.out.2 with ⟨-, h0⟩ | ⟨g, c, cur, hvv, hbg, hh, hc1, hc2, -⟩
      · omega
      subst hvv
      unfold maxLen at hc2
      go_wp2_with fail
      go_ret
      exact ⟨g, c, rfl, HOW.out, hc1, HBR.out⟩
end Go.Proofs.YtgbfaompondolaaGreatDoor
