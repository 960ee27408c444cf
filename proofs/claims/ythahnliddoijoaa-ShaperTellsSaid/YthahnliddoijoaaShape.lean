/-
  Shape, Conforms.
-/
import Derived.Test.YthahnliddoijoaaIntFn
import Derived.Deep.AppendLies
namespace Go.Proofs.Ythahnliddoijoaa
open Go.RowKit
def ints (zs : List Int) : List Value := zs.map (.int .i64)
def shapeStep (bag : Int) (out : List Int) (t : Int) : List Int := out ++ [match out.getLast? with | none => t | some p => if t < p + bag then p + bag else t]
def shapeL (bag : Int) (zs : List Int) : List Int := zs.foldl (shapeStep bag) []
theorem shapeL_snoc (bag : Int) (zs : List Int) (t : Int) : shapeL bag (zs ++ [t]) = shapeStep bag (shapeL bag zs) t := by unfold shapeL; rw [List.foldl_append]; rfl
theorem shapeStep_len (bag : Int) (out : List Int) (t : Int) : (shapeStep bag out t).length = out.length + 1 := by unfold shapeStep; simp
theorem shapeL_len (bag : Int) : ∀ (zs : List Int) (out : List Int), (zs.foldl (shapeStep bag) out).length = out.length + zs.length
  | [], out => by simp
  | t :: zs, out => by rw [List.foldl_cons, shapeL_len bag zs, shapeStep_len]; simp; omega
theorem shapeL_length (bag : Int) (zs : List Int) : (shapeL bag zs).length = zs.length := by unfold shapeL; rw [shapeL_len]; simp
theorem take_snoc_getD (zs : List Int) (k : Nat) (h : k < zs.length) : zs.take (k + 1) = zs.take k ++ [zs.getD k 0] := by
  rw [List.take_succ_eq_append_getElem h]; simp [List.getD_eq_getElem?_getD, h]
theorem shapeL_take (bag : Int) (zs : List Int) (k : Nat) (h : k < zs.length) : shapeL bag (zs.take (k + 1)) = shapeL bag (zs.take k) ++ [if k = 0 then zs.getD k 0 else if zs.getD k 0 < (shapeL bag (zs.take k)).getD (k - 1) 0 + bag then (shapeL bag (zs.take k)).getD (k - 1) 0 + bag else zs.getD k 0] := by
  rw [take_snoc_getD zs k h, shapeL_snoc]
  unfold shapeStep
  congr 2
  have hl : (shapeL bag (zs.take k)).length = k := by rw [shapeL_length, List.length_take]; omega
  rw [List.getLast?_eq_getElem?, hl]
  by_cases h0 : k = 0
  · subst h0
    have : shapeL bag (zs.take 0) = [] := rfl
    rw [this]; simp
  · rw [if_neg h0, getD_of (by omega : k - 1 < (shapeL bag (zs.take k)).length)]
/-- What is shaped is not greater than the last time and as many bags. -/
theorem shape_bound (bag : Int) (hb : 0 ≤ bag) (M : Int) : ∀ (k : Nat) (zs : List Int), k ≤ zs.length → (∀ i : Nat, i < zs.length → 0 ≤ zs.getD i 0 ∧ zs.getD i 0 ≤ M) → ∀ i : Nat, i < k → 0 ≤ (shapeL bag (zs.take k)).getD i 0 ∧ (shapeL bag (zs.take k)).getD i 0 ≤ M + i * bag
  | 0, _, _, _ => fun i hi => by omega
  | k + 1, zs, hk, hz => fun i hi => by
    have ih := shape_bound bag hb M k zs (by omega) hz
    have hl : (shapeL bag (zs.take k)).length = k := by rw [shapeL_length, List.length_take]; omega
    rw [shapeL_take bag zs k (by omega)]
    have z := hz k (by omega)
    by_cases hik : i < k
    · rw [List.getD_eq_getElem?_getD, List.getElem?_append_left (by omega), ← List.getD_eq_getElem?_getD]; exact ih i hik
    · obtain rfl : i = k := by omega
      rw [List.getD_eq_getElem?_getD, List.getElem?_append_right (by omega), hl, Nat.sub_self]
      simp only [List.getElem?_cons_zero, Option.getD_some]
      have hkb : 0 ≤ (i : Int) * bag := Int.mul_nonneg (by omega) hb
      by_cases h0 : i = 0
      · subst h0; simp; simp at z; omega
      · rw [if_neg h0]
        have p := ih (i - 1) (by omega)
        have e : (((i - 1 : Nat) : Int)) * bag + bag = (i : Int) * bag := by
          have : ((i - 1 : Nat) : Int) = (i : Int) - 1 := by omega
          rw [this, Int.sub_mul]; omega
        split <;> omega
def NilOr (v : Value) : Prop := ∃ a n c, v = .slice a n c
theorem ints_len (zs : List Int) : (ints zs).length = zs.length := List.length_map _
theorem ints_one (zs : List Int) : ∀ v ∈ ints zs, v.oneCell' = true := by intro v hv; obtain ⟨x, _, rfl⟩ := List.mem_map.1 hv; rfl
/-- An own row of integers is read. -/
theorem ints_own {w : World} {base : Nat} {v : Value} {n : Nat} {zs : List Int} {F : Nat → Prop} (h : w.ownsRow base 3 1 v n (ints zs)) (hl : zs.length = n) (hF : ∀ k, base ≤ k → ¬ F k) : ∃ A cap, v = .slice A n cap ∧ n ≤ cap ∧ Ints w A n zs F := by
  obtain ⟨_, h2⟩ := h
  rcases h2 with ⟨rfl, rfl⟩ | ⟨g, cap, cur, rfl, hg, hh, hc, hm, hs, ht⟩
  · exact ⟨none, 0, rfl, Nat.le_refl _, hl, fun h => by omega⟩
  · refine ⟨_, cap, rfl, hc, hl, fun hn => ⟨g, 0, rfl, hF g hg, (Array.getElem?_eq_some_iff.1 hh).1, fun i z hz => ?_⟩⟩
    have hi : i < zs.length := (List.getElem?_eq_some_iff.1 hz).1
    rw [Nat.zero_add, cell_of_row w g i _ _ _ hh]
    have e : (ints zs)[i]? = some (.int .i64 z) := by unfold ints; rw [List.getElem?_map, hz]; rfl
    rw [← ht, List.getElem?_take, if_pos (by omega)] at e
    simpa using e
theorem intInfo : (Try.prog.info? 3).map (fun i => (i.zero, i.size, i.bytes)) = some (some (.int .i64 0), 1, 8) := by kernel_rfl
theorem new1 (W : World) (t : TypeId) (u : Value) (b : Nat) (hb : b = W.heap.size) : ∀ j v, [u][j]? = some v → (W.alloc (.cells #[u] t)).cell? ((⟨b, 0, none⟩ : Addr).add j) = some v := by
  subst hb
  exact World.news_of_block (cs := #[u]) (t := t) (fr := (0, 0)) (heap_alloc_new W _)
set_option maxRecDepth 100000 in
set_option maxHeartbeats 2000000 in
theorem shape_fine (bag : Int) (A : Option Addr) (n cap : Nat) (zs : List Int) (F : Nat → Prop) (w : World) (hn : n ≤ 1000000) (h : Hid (Ints w A n zs F)) (hb : Hid (bagB bag = true)) (ho : Hid (orderB zs = true)) :
    Calls Try.prog 11 #[.int .i64 bag, .slice A n cap] w fun e w' => ∃ v, e = .returned (.tuple #[v, .int .i64 0]) ∧ w'.ownsRow w.heap.size 3 1 v n (ints (shapeL bag zs)) ∧ Below w.heap.size w w' := by
  obtain ⟨i0, hi0, hz0, hz1, hz2⟩ := info_parts intInfo
  have HBg := hide (fun w => isBag_any bag w)
  rw [hb.out] at HBg
  have HOr := hide (inOrder_any A n cap zs F w (by omega) h)
  rw [ho.out] at HOr
  have hbg : 1 ≤ bag ∧ bag ≤ 12800 := by have := hb.out; unfold bagB at this; simpa using this
  obtain ⟨b1, b2⟩ := hbg
  have HZ : Hid (∀ i : Nat, i < zs.length → 0 ≤ zs.getD i 0 ∧ zs.getD i 0 ≤ 1073741824) := by
    intro i hi
    have := ho.out
    unfold orderB at this
    simp only [Bool.and_eq_true, Bool.not_eq_true', List.any_eq_false] at this
    have h2 := this.2 (zs.getD i 0) (by rw [List.getD_eq_getElem?_getD, List.getElem?_eq_getElem hi]; exact List.getElem_mem _)
    unfold badT at h2
    simp at h2
    simp; omega
  go_enter Try.func11, Try.ntmps11
  go_wp2_with (go_at_call 22; refine (HBg.out _).mono ?_; rintro e w' ⟨rfl, rfl⟩)
  refine HOr.out.mono ?_
  rintro e w1 ⟨rfl, d0, rfl⟩
  go_wp2_with fail
  go_loopw [6, 19] (fun v6 v19 wr => ∃ k : Nat, k ≤ n ∧ v19 = .int .i64 k ∧ wr.ownsRow w.heap.size 3 1 v6 k (ints (shapeL bag (zs.take k))) ∧ Below w.heap.size w wr) (fun _ v19 _ => n - (intOf v19).toNat)
  case atStart => exact ⟨0, by omega, rfl, World.ownsRow_nil _ _ _ _, below_drewN (Below.refl _ _) _⟩
  case round =>
    obtain ⟨k, hk, rfl, hown, hbr⟩ := hrel
    have HOW := hide hown
    have HBR := hide hbr
    have hsz := hbr.size
    clear hown hbr
    by_cases hlt : k < n
    · have hiw := h.out.below HBR.out
      obtain ⟨b, off, hA, -⟩ := h.out.2 (by omega)
      subst hA
      have hc := hiw.cell rfl hlt
      have hzk := HZ.out k (by rw [h.out.1]; exact hlt)
      have HST := hide (shapeL_take bag zs k (by rw [h.out.1]; exact hlt))
      have hk0 : (0 : Int) ≤ (k : Int) := by omega
      have hk1 : (k : Int) < (n : Int) := by omega
      have hkn : ((k : Int)).toNat = k := by omega
      generalize zs.getD k 0 = z at *
      by_cases h0 : k = 0
      · have HSN : Hid (ints (shapeL bag (zs.take k)) ++ [.int .i64 z] = ints (shapeL bag (zs.take (k + 1)))) := by
          rw [HST.out, if_pos h0]; unfold ints; simp [Hid]
        have hb0 : decide (0 < (k : Int)) = false := by simp; omega
        have hle : (k : Int) ≤ 0 := by omega
        clear h0 HST
        go_wp2_with (at_builtin; refine wpList_append_own _ rfl _ _ 22 rfl w.heap.size 3 i0 _ 1 8 Try.underlying22 hi0 hz0 hz1 hz2 rfl (by decide) _ _ _ rfl (HOW.out.alloc _) ⟨wr.heap.size, 0, none⟩ 1 1 [_] rfl rfl (new1 wr _ _ _ rfl) (by simp [Value.oneCell']) (by unfold maxLen; omega) (by omega) (by simp; omega) ?_; intro v' w1 hown' hgrow _)
        rw [HSN.out] at hown'
        have HG := hide (Below.grown ((Below.refl w.heap.size wr).alloc (by omega) _) hgrow (by simp; omega) (fun g hg => (HOW.out.lt g hg).1))
        have HO := hide hown'
        clear hown' hgrow
        try go_wp2
        go_roundw
        case rel => exact ⟨k + 1, by omega, by go_num, HO.out, HBR.out.trans HG.out⟩
        case measure => simp [intOf]; omega
      · obtain ⟨j, hj⟩ : ∃ j : Nat, k = j + 1 := ⟨k - 1, by omega⟩
        subst hj
        have hbd := shape_bound bag (by omega) 1073741824 (j + 1) zs (by rw [h.out.1]; omega) HZ.out j (by omega)
        obtain ⟨Ao, co, hv, hco, hio⟩ := ints_own (F := fun _ => False) HOW.out (by rw [shapeL_length, List.length_take, h.out.1]; omega) (fun _ _ h => h)
        obtain ⟨bo, oo, hAo, -⟩ := hio.2 (by omega)
        subst hAo
        have hco2 := hio.cell rfl (i := j) (by omega)
        have HSN : Hid (shapeL bag (zs.take (j + 1 + 1)) = shapeL bag (zs.take (j + 1)) ++ [if z < (shapeL bag (zs.take (j + 1))).getD j 0 + bag then (shapeL bag (zs.take (j + 1))).getD j 0 + bag else z]) := by
          rw [HST.out, if_neg (by omega)]; exact rfl
        have hpb : (shapeL bag (zs.take (j + 1))).getD j 0 + bag ≤ 20000000000 := by
          have : (j : Int) * bag ≤ 1000000 * 12800 := Int.mul_le_mul (by omega) b2 (by omega) (by omega)
          omega
        have HXX : ∀ x, Hid ((if z < (shapeL bag (zs.take (j + 1))).getD j 0 + bag then (shapeL bag (zs.take (j + 1))).getD j 0 + bag else z) = x) → Hid (ints (shapeL bag (zs.take (j + 1))) ++ [.int .i64 x] = ints (shapeL bag (zs.take (j + 1 + 1)))) := by
          intro x hx; rw [HSN.out, hx.out]; unfold ints; simp [Hid]
        have HX := hide HXX
        clear HXX HSN HST h0
        have hp0 := hbd.1
        clear hbd
        generalize (shapeL bag (zs.take (j + 1))).getD j 0 = p at *
        subst hv
        have hj1 : (0 : Int) ≤ (j : Int) := by omega
        have hj2 : (j : Int) < ((j : Int) + 1) := by omega
        go_wp2_with (at_builtin; refine wpList_append_own _ rfl _ _ 22 rfl w.heap.size 3 i0 _ 1 8 Try.underlying22 hi0 hz0 hz1 hz2 rfl (by decide) _ _ _ rfl (HOW.out.alloc _) ⟨wr.heap.size, 0, none⟩ 1 1 [_] rfl rfl (new1 wr _ _ _ rfl) (by simp [Value.oneCell']) (by unfold maxLen; omega) (by omega) (by simp; omega) ?_; intro v' w1 hown' hgrow _)
        all_goals
          rw [(HX.out _ (hide rfl)).out] at hown'
          have HG := hide (Below.grown ((Below.refl w.heap.size wr).alloc (by omega) _) hgrow (by simp; omega) (fun g hg => (HOW.out.lt g hg).1))
          have HO := hide hown'
          clear hown' hgrow
          try go_wp2
          go_roundw
          case rel => exact ⟨j + 1 + 1, by omega, by go_num, HO.out, HBR.out.trans HG.out⟩
          case measure => simp [intOf]; omega
    · have HE : Hid (zs.take k = zs) := List.take_of_length_le (by rw [h.out.1]; omega)
      have hkn : k = n := by omega
      subst hkn
      go_wp2_with fail
      go_ret2
      exact ⟨_, rfl, by have := HOW.out; rw [HE.out] at this; exact this, HBR.out⟩
set_option maxRecDepth 100000 in
set_option maxHeartbeats 1000000 in
theorem shape_wrong (bag : Int) (A : Option Addr) (n cap : Nat) (zs : List Int) (F : Nat → Prop) (w : World) (hn : n ≤ 9223372036854775807) (h : Hid (Ints w A n zs F)) (hb : Hid ((bagB bag && orderB zs) = false)) :
    Calls Try.prog 11 #[.int .i64 bag, .slice A n cap] w fun e w' => e = .returned (.tuple #[.slice none 0 0, .int .i64 2]) ∧ ∃ d, w' = w.drewN d := by
  have HBg := hide (fun w => isBag_any bag w)
  have HOr := hide (inOrder_any A n cap zs F w hn h)
  have hb2 := hb.out
  cases h1 : bagB bag
  · rw [h1] at HBg
    clear hb2 hb h1
    go_enter Try.func11, Try.ntmps11
    go_wp2_with (go_at_call 22; refine (HBg.out _).mono ?_; rintro e w' ⟨rfl, rfl⟩)
    go_ret2
    exact ⟨rfl, 0, rfl⟩
  · rw [h1] at HBg hb2
    have h2 : orderB zs = false := by simpa using hb2
    rw [h2] at HOr
    clear hb2 hb h1 h2
    go_enter Try.func11, Try.ntmps11
    go_wp2_with (go_at_call 22; refine (HBg.out _).mono ?_; rintro e w' ⟨rfl, rfl⟩)
    refine HOr.out.mono ?_
    rintro e w1 ⟨rfl, d0, rfl⟩
    go_wp2_with fail
    go_ret2
    exact ⟨rfl, _, rfl⟩
def conformsB (bag : Int) (zs : List Int) : Bool := bagB bag && orderB zs && shapeL bag zs == zs
end Go.Proofs.Ythahnliddoijoaa
