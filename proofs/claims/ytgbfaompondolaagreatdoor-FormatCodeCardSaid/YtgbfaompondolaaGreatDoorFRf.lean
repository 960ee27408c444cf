/-
  format: the reference's Ins and Code.
-/
import Derived.Test.YtgbfaompondolaaGreatDoorFRe
namespace Go.Proofs.YtgbfaompondolaaGreatDoor
open Go.RowKit
attribute [local go_sem] Later.cell
theorem zero_num {n : Int} (h : zeroF n = true) : numF n = true := by
  simp [zeroF] at h
  subst h
  decide
theorem ins_nums {x : InsD} (h : insF x = true) : [x.a, x.b, x.c].all numF = true := by
  simp only [insF, Bool.and_eq_true] at h
  have e := List.take_append_drop (wordN insOps x.op).length [x.a, x.b, x.c]
  rw [← e, List.all_append, Bool.and_eq_true]
  exact ⟨h.2.1, List.all_eq_true.2 (fun z hz => zero_num (List.all_eq_true.1 h.2.2 z hz))⟩
theorem eq0 (n : Int) : ((n == 0) = true ∧ zeroF n = true) ∨ ((n == 0) = false ∧ zeroF n = false) := by
  by_cases h : n = 0
  · exact .inl ⟨by simp [h], by simp [zeroF, h]⟩
  · exact .inr ⟨by simp [h], by simp [zeroF, h]⟩
set_option maxRecDepth 100000 in
set_option maxHeartbeats 4000000 in
theorem rins_any (x : InsD) (hop : x.op ≤ 255) (W : World) :
    Calls Tryz.prog 110 #[.agg #[.int .u8 (x.op : Int), .int .i64 x.a, .int .i64 x.b, .int .i64 x.c]] W fun e w' => e = .returned (.bool (insF x)) ∧ Below W.heap.size W w' := by
  have h3 := ops_three x.op hop
  have HO := hide (fun V => rops_any x.op hop V)
  have HW := hide (fun V => rword_any x.op hop V)
  obtain ⟨O, hO⟩ : ∃ O : ByteArray, (⟨(wordN insOps x.op).toArray⟩ : ByteArray) = O := ⟨_, rfl⟩
  have hOs : O.size = (wordN insOps x.op).length := by rw [← hO]; simp [ByteArray.size]
  rw [hO] at HO
  have hI : insF x = ((wordN insWords x.op != []) && (([x.a, x.b, x.c].take (wordN insOps x.op).length).all numF && ([x.a, x.b, x.c].drop (wordN insOps x.op).length).all zeroF)) := rfl
  have hw := const_ne (wordN insWords x.op)
  have HNO := hide (fun h : [x.a, x.b, x.c].all numF = false => show insF x = false by
    cases hf : insF x with
    | false => rfl
    | true => rw [ins_nums hf] at h; cases h)
  generalize (wordN insWords x.op != []) = z0 at *
  generalize hS : (⟨(wordN insWords x.op).toArray⟩ : ByteArray) = S at *
  clear hO hS
  have HX := hide (heap_alloc_new W (.cells #[.int .u8 (x.op : Int), .int .i64 x.a, .int .i64 x.b, .int .i64 x.c] 78))
  have HB := hide ((Below.refl W.heap.size W).alloc (Nat.le_refl _) (.cells #[.int .u8 (x.op : Int), .int .i64 x.a, .int .i64 x.b, .int .i64 x.c] 78))
  go_enter Tryz.func110, Tryz.ntmps110
  go_wp2_with fail
  generalize W.alloc (.cells #[.int .u8 (x.op : Int), .int .i64 x.a, .int .i64 x.b, .int .i64 x.c] 78) = w0 at *
  refine (HO.out w0).mono ?_
  rintro e w1 ⟨rfl, hb⟩
  have HBn := hide (HB.out.trans (hb.mono HB.out.size))
  have HXn := hide ((hb.block _ (Array.getElem?_eq_some_iff.1 HX.out).1).trans HX.out)
  clear HB HX hb
  have HB := HBn
  have HX := HXn
  clear HBn HXn
  have HI := hide hI
  clear hI
  rcases hw with ⟨hw, hz⟩ | ⟨hw, hz⟩
  · subst hz
    rw [hw] at HW
    clear hw hOs h3
    have c0 := cell_of_row _ _ 0 _ _ _ HX.out
    have c1 := cell_of_row _ _ 1 _ _ _ HX.out
    have c2 := cell_of_row _ _ 2 _ _ _ HX.out
    have c3 := cell_of_row _ _ 3 _ _ _ HX.out
    go_wp2_with fail
    clear c0 c1 c2 c3
    refine (HW.out w1).mono ?_
    rintro e w2 ⟨rfl, hb⟩
    have HBn := hide (HB.out.trans (hb.mono HB.out.size))
    have HXn := hide ((hb.block _ (Array.getElem?_eq_some_iff.1 HX.out).1).trans HX.out)
    clear HB HX hb
    have HB := HBn
    have HX := HXn
    clear HBn HXn
    have c0 := cell_of_row _ _ 0 _ _ _ HX.out
    have c1 := cell_of_row _ _ 1 _ _ _ HX.out
    have c2 := cell_of_row _ _ 2 _ _ _ HX.out
    have c3 := cell_of_row _ _ 3 _ _ _ HX.out
    go_wp2_with fail
    clear c0 c1 c2 c3
    go_ret
    exact ⟨by rw [HI.out]; rfl, HB.out⟩
  subst hz
  have c0 := cell_of_row _ _ 0 _ _ _ HX.out
  have c1 := cell_of_row _ _ 1 _ _ _ HX.out
  have c2 := cell_of_row _ _ 2 _ _ _ HX.out
  have c3 := cell_of_row _ _ 3 _ _ _ HX.out
  go_wp2_with fail
  clear c0 c1 c2 c3
  refine (HW.out w1).mono ?_
  rintro e w2 ⟨rfl, hb⟩
  have HBn := hide (HB.out.trans (hb.mono HB.out.size))
  have HXn := hide ((hb.block _ (Array.getElem?_eq_some_iff.1 HX.out).1).trans HX.out)
  clear HB HX hb
  have HB := HBn
  have HX := HXn
  clear HBn HXn
  have c0 := cell_of_row _ _ 0 _ _ _ HX.out
  have c1 := cell_of_row _ _ 1 _ _ _ HX.out
  have c2 := cell_of_row _ _ 2 _ _ _ HX.out
  have c3 := cell_of_row _ _ 3 _ _ _ HX.out
  go_wp2_with fail
  clear c0 c1 c2 c3
  have HBa := hide (HB.out.alloc HB.out.size (.cells #[.int .i64 x.a, .int .i64 x.b, .int .i64 x.c] 3))
  have HXa := hide ((Below.heap_alloc w2 (.cells #[.int .i64 x.a, .int .i64 x.b, .int .i64 x.c] 3) _ (Array.getElem?_eq_some_iff.1 HX.out).1).trans HX.out)
  have HC := hide (rnums_any (.slice (some ⟨w2.heap.size, 0, none⟩) 3 3) [x.a, x.b, x.c] (w2.alloc (.cells #[.int .i64 x.a, .int .i64 x.b, .int .i64 x.c] 3)) (hide (dat_ints w2 [x.a, x.b, x.c] 3)) (by simp))
  clear HX HB
  have HX := HXa
  have HB := HBa
  clear HXa HBa
  cases hal : [x.a, x.b, x.c].all numF with
  | false =>
    have HNI := hide (HNO.out hal)
    rw [hal] at HC
    clear hal HNO HI hOs h3
    refine HC.out.mono ?_
    rintro e w3 ⟨rfl, hb⟩
    have HBn := hide (HB.out.trans (hb.mono HB.out.size))
    have HXn := hide ((hb.block _ (Array.getElem?_eq_some_iff.1 HX.out).1).trans HX.out)
    clear HB HX hb
    have HB := HBn
    have HX := HXn
    clear HBn HXn
    have c0 := cell_of_row _ _ 0 _ _ _ HX.out
    have c1 := cell_of_row _ _ 1 _ _ _ HX.out
    have c2 := cell_of_row _ _ 2 _ _ _ HX.out
    have c3 := cell_of_row _ _ 3 _ _ _ HX.out
    go_wp2_with fail
    clear c0 c1 c2 c3
    go_ret
    exact ⟨by rw [HNI.out]; rfl, HB.out⟩
  | true =>
    have HA := hide (show numF x.a = true ∧ numF x.b = true ∧ numF x.c = true by simpa using hal)
    rw [hal] at HC
    clear hal HNO
    refine HC.out.mono ?_
    rintro e w3 ⟨rfl, hb⟩
    have HBn := hide (HB.out.trans (hb.mono HB.out.size))
    have HXn := hide ((hb.block _ (Array.getElem?_eq_some_iff.1 HX.out).1).trans HX.out)
    clear HB HX hb
    have HB := HBn
    have HX := HXn
    clear HBn HXn
    rcases (by omega : (wordN insOps x.op).length = 0 ∨ (wordN insOps x.op).length = 1 ∨ (wordN insOps x.op).length = 2 ∨ (wordN insOps x.op).length = 3) with hn | hn | hn | hn
    · rw [hn] at hOs HI
      clear h3
      rcases eq0 x.a with ⟨ea, fa⟩ | ⟨ea, fa⟩
      · rcases eq0 x.b with ⟨eb, fb⟩ | ⟨eb, fb⟩
        · rcases eq0 x.c with ⟨ec, fc⟩ | ⟨ec, fc⟩
          · skip
            have c0 := cell_of_row _ _ 0 _ _ _ HX.out
            have c1 := cell_of_row _ _ 1 _ _ _ HX.out
            have c2 := cell_of_row _ _ 2 _ _ _ HX.out
            have c3 := cell_of_row _ _ 3 _ _ _ HX.out
            go_wp2_with fail
            clear c0 c1 c2 c3
            go_ret
            exact ⟨by rw [HI.out]; have := HA.out; simp [*], HB.out⟩
          · skip
            have c0 := cell_of_row _ _ 0 _ _ _ HX.out
            have c1 := cell_of_row _ _ 1 _ _ _ HX.out
            have c2 := cell_of_row _ _ 2 _ _ _ HX.out
            have c3 := cell_of_row _ _ 3 _ _ _ HX.out
            go_wp2_with fail
            clear c0 c1 c2 c3
            go_ret
            exact ⟨by rw [HI.out]; have := HA.out; simp [*], HB.out⟩
        · skip
          have c0 := cell_of_row _ _ 0 _ _ _ HX.out
          have c1 := cell_of_row _ _ 1 _ _ _ HX.out
          have c2 := cell_of_row _ _ 2 _ _ _ HX.out
          have c3 := cell_of_row _ _ 3 _ _ _ HX.out
          go_wp2_with fail
          clear c0 c1 c2 c3
          go_ret
          exact ⟨by rw [HI.out]; have := HA.out; simp [*], HB.out⟩
      · skip
        have c0 := cell_of_row _ _ 0 _ _ _ HX.out
        have c1 := cell_of_row _ _ 1 _ _ _ HX.out
        have c2 := cell_of_row _ _ 2 _ _ _ HX.out
        have c3 := cell_of_row _ _ 3 _ _ _ HX.out
        go_wp2_with fail
        clear c0 c1 c2 c3
        go_ret
        exact ⟨by rw [HI.out]; have := HA.out; simp [*], HB.out⟩
    · rw [hn] at hOs HI
      clear h3
      rcases eq0 x.b with ⟨eb, fb⟩ | ⟨eb, fb⟩
      · rcases eq0 x.c with ⟨ec, fc⟩ | ⟨ec, fc⟩
        · skip
          have c0 := cell_of_row _ _ 0 _ _ _ HX.out
          have c1 := cell_of_row _ _ 1 _ _ _ HX.out
          have c2 := cell_of_row _ _ 2 _ _ _ HX.out
          have c3 := cell_of_row _ _ 3 _ _ _ HX.out
          go_wp2_with fail
          clear c0 c1 c2 c3
          go_ret
          exact ⟨by rw [HI.out]; have := HA.out; simp [*], HB.out⟩
        · skip
          have c0 := cell_of_row _ _ 0 _ _ _ HX.out
          have c1 := cell_of_row _ _ 1 _ _ _ HX.out
          have c2 := cell_of_row _ _ 2 _ _ _ HX.out
          have c3 := cell_of_row _ _ 3 _ _ _ HX.out
          go_wp2_with fail
          clear c0 c1 c2 c3
          go_ret
          exact ⟨by rw [HI.out]; have := HA.out; simp [*], HB.out⟩
      · skip
        have c0 := cell_of_row _ _ 0 _ _ _ HX.out
        have c1 := cell_of_row _ _ 1 _ _ _ HX.out
        have c2 := cell_of_row _ _ 2 _ _ _ HX.out
        have c3 := cell_of_row _ _ 3 _ _ _ HX.out
        go_wp2_with fail
        clear c0 c1 c2 c3
        go_ret
        exact ⟨by rw [HI.out]; have := HA.out; simp [*], HB.out⟩
    · rw [hn] at hOs HI
      clear h3
      rcases eq0 x.c with ⟨ec, fc⟩ | ⟨ec, fc⟩
      · skip
        have c0 := cell_of_row _ _ 0 _ _ _ HX.out
        have c1 := cell_of_row _ _ 1 _ _ _ HX.out
        have c2 := cell_of_row _ _ 2 _ _ _ HX.out
        have c3 := cell_of_row _ _ 3 _ _ _ HX.out
        go_wp2_with fail
        clear c0 c1 c2 c3
        go_ret
        exact ⟨by rw [HI.out]; have := HA.out; simp [*], HB.out⟩
      · skip
        have c0 := cell_of_row _ _ 0 _ _ _ HX.out
        have c1 := cell_of_row _ _ 1 _ _ _ HX.out
        have c2 := cell_of_row _ _ 2 _ _ _ HX.out
        have c3 := cell_of_row _ _ 3 _ _ _ HX.out
        go_wp2_with fail
        clear c0 c1 c2 c3
        go_ret
        exact ⟨by rw [HI.out]; have := HA.out; simp [*], HB.out⟩
    · rw [hn] at hOs HI
      clear h3
      have c0 := cell_of_row _ _ 0 _ _ _ HX.out
      have c1 := cell_of_row _ _ 1 _ _ _ HX.out
      have c2 := cell_of_row _ _ 2 _ _ _ HX.out
      have c3 := cell_of_row _ _ 3 _ _ _ HX.out
      go_wp2_with fail
      clear c0 c1 c2 c3
      go_ret
      exact ⟨by rw [HI.out]; have := HA.out; simp [*], HB.out⟩
theorem join_step {α : Type} (f : α → List UInt8) (l : List α) (k : Nat) (x : α) (h : l[k]? = some x) : Lib.join ((l.take (k + 1)).map f) [32] = Lib.join ((l.take k).map f) [32] ++ (if k = 0 then [] else [32]) ++ f x := by
  cases l with
  | nil => simp at h
  | cons a l =>
    cases k with
    | zero =>
      simp only [List.getElem?_cons_zero, Option.some.injEq] at h
      subst h
      simp [Lib.join_nil, Lib.join_one]
    | succ k =>
      simp only [List.getElem?_cons_succ] at h
      rw [List.take_succ_cons, List.take_succ_cons, List.map_cons, List.map_cons, Lib.join_cons, Lib.join_cons, List.map_take, List.map_take, Lib.joinTail_take_succ [32] (l.map f) k (f x) (by rw [List.getElem?_map, h]; rfl)]
      simp
end Go.Proofs.YtgbfaompondolaaGreatDoor
