/-
  format: the reference's Line.
-/
import Derived.Test.YtgbfaompondolaaGreatDoorFRd
namespace Go.Proofs.YtgbfaompondolaaGreatDoor
open Go.RowKit
attribute [local go_sem] Later.cell
theorem opsT_room {x : InsD} {z : Int} (h : z ∈ opsOf x) (hF : insF x = true) : numF z = true := by
  simp only [insF, Bool.and_eq_true] at hF
  exact List.all_eq_true.1 hF.2.1 z h
set_option maxRecDepth 100000 in
set_option maxHeartbeats 2000000 in
theorem rline_any (x : InsD) (hop : x.op ≤ 255) (W : World) (hF : insF x = true) :
    Calls Tryz.prog 111 #[.agg #[.int .u8 (x.op : Int), .int .i64 x.a, .int .i64 x.b, .int .i64 x.c]] W fun e w' => e = .returned (.string ⟨(insT x).toArray⟩) ∧ Below W.heap.size W w' := by
  have h3 := ops_three x.op hop
  have hw6 := word_le (k := 6) (l := insWords) (by decide) x.op
  have HO := hide (fun V => rops_any x.op hop V)
  have HW := hide (fun V => rword_any x.op hop V)
  have hnum := fun z (h : z ∈ opsOf x) => opsT_room h hF
  obtain ⟨O, hO⟩ : ∃ O : ByteArray, (⟨(wordN insOps x.op).toArray⟩ : ByteArray) = O := ⟨_, rfl⟩
  obtain ⟨S, hS⟩ : ∃ S : ByteArray, (⟨(wordN insWords x.op).toArray⟩ : ByteArray) = S := ⟨_, rfl⟩
  have hOs : O.size = (wordN insOps x.op).length := by rw [← hO]; simp [ByteArray.size]
  have hSs : S.size = (wordN insWords x.op).length := by rw [← hS]; simp [ByteArray.size]
  have hSz : S.size ≤ 6 := by omega
  have HSt := hide (show S.data.toList = wordN insWords x.op by rw [← hS])
  have hT : (insT x) = wordN insWords x.op ++ catT opT ([x.a, x.b, x.c].take (wordN insOps x.op).length) ++ [59] := rfl
  have hops : opsOf x = [x.a, x.b, x.c].take (wordN insOps x.op).length := rfl
  rw [hO] at HO
  rw [hS] at HW
  clear hO hS hSs hw6
  have HX := hide (heap_alloc_new W (.cells #[.int .u8 (x.op : Int), .int .i64 x.a, .int .i64 x.b, .int .i64 x.c] 78))
  have HB := hide ((Below.refl W.heap.size W).alloc (Nat.le_refl _) (.cells #[.int .u8 (x.op : Int), .int .i64 x.a, .int .i64 x.b, .int .i64 x.c] 78))
  go_enter Tryz.func111, Tryz.ntmps111
  go_wp2_with fail
  generalize W.alloc (.cells #[.int .u8 (x.op : Int), .int .i64 x.a, .int .i64 x.b, .int .i64 x.c] 78) = w0 at *
  rcases (by omega : (wordN insOps x.op).length = 0 ∨ (wordN insOps x.op).length = 1 ∨ (wordN insOps x.op).length = 2 ∨ (wordN insOps x.op).length = 3) with hn | hn | hn | hn
  · rw [hn] at hOs hT hops
    have HT := hide hT
    have k1 : ¬ 9223372036854775807 < S.size + 1 := by omega
    clear hT hops hn hnum h3
    refine (HO.out w0).mono ?_
    rintro e w1 ⟨rfl, hb⟩
    have HBn := hide (HB.out.trans (hb.mono HB.out.size))
    have HXn := hide ((hb.block _ (Array.getElem?_eq_some_iff.1 HX.out).1).trans HX.out)
    clear HB HX hb
    have HB := HBn
    have HX := HXn
    clear HBn HXn
    have c0 := cell_of_row _ _ 0 _ _ _ HX.out
    have c1 := cell_of_row _ _ 1 _ _ _ HX.out
    have c2 := cell_of_row _ _ 2 _ _ _ HX.out
    have c3 := cell_of_row _ _ 3 _ _ _ HX.out
    go_wp2_with fail
    clear c0 c1 c2 c3
    refine (HW.out w1).mono ?_
    rintro e w2 ⟨rfl, hb⟩
    have HBn := hide (HB.out.trans (hb.mono HB.out.size))
    have HXn := hide ((hb.block _ (Array.getElem?_eq_some_iff.1 HX.out).1).trans HX.out)
    clear HB HX hb
    have HB := HBn
    have HX := HXn
    clear HBn HXn
    have c0 := cell_of_row _ _ 0 _ _ _ HX.out
    have c1 := cell_of_row _ _ 1 _ _ _ HX.out
    have c2 := cell_of_row _ _ 2 _ _ _ HX.out
    have c3 := cell_of_row _ _ 3 _ _ _ HX.out
    go_wp2_with fail
    clear c0 c1 c2 c3
    go_ret
    refine ⟨congrArg (fun s => Ending.returned (Value.string s)) ?_, HB.out⟩
    apply ByteArray.ext
    apply Array.toList_inj.1
    rw [ByteArray.data_append, Array.toList_append, HSt.out, HT.out]
    simp [catT]
  · rw [hn] at hOs hT hops
    have HT := hide hT
    have n0 := hnum x.a (by rw [hops]; simp)
    have d0 := dig10 n0
    have HD0 := hide (fun V => rdec_num x.a n0 V)
    obtain ⟨D0, e0⟩ : ∃ D : ByteArray, (⟨(Lib.itoa x.a).toArray⟩ : ByteArray) = D := ⟨_, rfl⟩
    have s0 : D0.size ≤ 10 := by rw [← e0]; simpa [ByteArray.size] using d0
    have t0 := hide (show D0.data.toList = Lib.itoa x.a by rw [← e0])
    rw [e0] at HD0
    have k1 : ¬ 9223372036854775807 < S.size + 1 := by omega
    have k2 : ¬ 9223372036854775807 < S.size + 1 + D0.size := by omega
    have k3 : ¬ 9223372036854775807 < S.size + 1 + D0.size + 1 := by omega
    clear hT hops hn hnum h3 n0 d0 e0
    refine (HO.out w0).mono ?_
    rintro e w1 ⟨rfl, hb⟩
    have HBn := hide (HB.out.trans (hb.mono HB.out.size))
    have HXn := hide ((hb.block _ (Array.getElem?_eq_some_iff.1 HX.out).1).trans HX.out)
    clear HB HX hb
    have HB := HBn
    have HX := HXn
    clear HBn HXn
    have c0 := cell_of_row _ _ 0 _ _ _ HX.out
    have c1 := cell_of_row _ _ 1 _ _ _ HX.out
    have c2 := cell_of_row _ _ 2 _ _ _ HX.out
    have c3 := cell_of_row _ _ 3 _ _ _ HX.out
    go_wp2_with fail
    clear c0 c1 c2 c3
    refine (HW.out w1).mono ?_
    rintro e w2 ⟨rfl, hb⟩
    have HBn := hide (HB.out.trans (hb.mono HB.out.size))
    have HXn := hide ((hb.block _ (Array.getElem?_eq_some_iff.1 HX.out).1).trans HX.out)
    clear HB HX hb
    have HB := HBn
    have HX := HXn
    clear HBn HXn
    have c0 := cell_of_row _ _ 0 _ _ _ HX.out
    have c1 := cell_of_row _ _ 1 _ _ _ HX.out
    have c2 := cell_of_row _ _ 2 _ _ _ HX.out
    have c3 := cell_of_row _ _ 3 _ _ _ HX.out
    go_wp2_with fail
    clear c0 c1 c2 c3
    refine (HD0.out w2).mono ?_
    rintro e w3 ⟨rfl, hb⟩
    have HBn := hide (HB.out.trans (hb.mono HB.out.size))
    have HXn := hide ((hb.block _ (Array.getElem?_eq_some_iff.1 HX.out).1).trans HX.out)
    clear HB HX hb
    have HB := HBn
    have HX := HXn
    clear HBn HXn
    have c0 := cell_of_row _ _ 0 _ _ _ HX.out
    have c1 := cell_of_row _ _ 1 _ _ _ HX.out
    have c2 := cell_of_row _ _ 2 _ _ _ HX.out
    have c3 := cell_of_row _ _ 3 _ _ _ HX.out
    go_wp2_with fail
    clear c0 c1 c2 c3
    go_ret
    refine ⟨congrArg (fun s => Ending.returned (Value.string s)) ?_, HB.out⟩
    apply ByteArray.ext
    apply Array.toList_inj.1
    simp only [ByteArray.data_append, Array.toList_append]
    rw [HSt.out, HT.out, t0.out]
    simp [catT, opT]
  · rw [hn] at hOs hT hops
    have HT := hide hT
    have n0 := hnum x.a (by rw [hops]; simp)
    have n1 := hnum x.b (by rw [hops]; simp)
    have d0 := dig10 n0
    have d1 := dig10 n1
    have HD0 := hide (fun V => rdec_num x.a n0 V)
    have HD1 := hide (fun V => rdec_num x.b n1 V)
    obtain ⟨D0, e0⟩ : ∃ D : ByteArray, (⟨(Lib.itoa x.a).toArray⟩ : ByteArray) = D := ⟨_, rfl⟩
    obtain ⟨D1, e1⟩ : ∃ D : ByteArray, (⟨(Lib.itoa x.b).toArray⟩ : ByteArray) = D := ⟨_, rfl⟩
    have s0 : D0.size ≤ 10 := by rw [← e0]; simpa [ByteArray.size] using d0
    have s1 : D1.size ≤ 10 := by rw [← e1]; simpa [ByteArray.size] using d1
    have t0 := hide (show D0.data.toList = Lib.itoa x.a by rw [← e0])
    have t1 := hide (show D1.data.toList = Lib.itoa x.b by rw [← e1])
    rw [e0] at HD0
    rw [e1] at HD1
    have k1 : ¬ 9223372036854775807 < S.size + 1 := by omega
    have k2 : ¬ 9223372036854775807 < S.size + 1 + D0.size := by omega
    have k3 : ¬ 9223372036854775807 < S.size + 1 + D0.size + 1 := by omega
    have k4 : ¬ 9223372036854775807 < S.size + 1 + D0.size + 1 + D1.size := by omega
    have k5 : ¬ 9223372036854775807 < S.size + 1 + D0.size + 1 + D1.size + 1 := by omega
    clear hT hops hn hnum h3 n0 d0 e0 n1 d1 e1
    refine (HO.out w0).mono ?_
    rintro e w1 ⟨rfl, hb⟩
    have HBn := hide (HB.out.trans (hb.mono HB.out.size))
    have HXn := hide ((hb.block _ (Array.getElem?_eq_some_iff.1 HX.out).1).trans HX.out)
    clear HB HX hb
    have HB := HBn
    have HX := HXn
    clear HBn HXn
    have c0 := cell_of_row _ _ 0 _ _ _ HX.out
    have c1 := cell_of_row _ _ 1 _ _ _ HX.out
    have c2 := cell_of_row _ _ 2 _ _ _ HX.out
    have c3 := cell_of_row _ _ 3 _ _ _ HX.out
    go_wp2_with fail
    clear c0 c1 c2 c3
    refine (HW.out w1).mono ?_
    rintro e w2 ⟨rfl, hb⟩
    have HBn := hide (HB.out.trans (hb.mono HB.out.size))
    have HXn := hide ((hb.block _ (Array.getElem?_eq_some_iff.1 HX.out).1).trans HX.out)
    clear HB HX hb
    have HB := HBn
    have HX := HXn
    clear HBn HXn
    have c0 := cell_of_row _ _ 0 _ _ _ HX.out
    have c1 := cell_of_row _ _ 1 _ _ _ HX.out
    have c2 := cell_of_row _ _ 2 _ _ _ HX.out
    have c3 := cell_of_row _ _ 3 _ _ _ HX.out
    go_wp2_with fail
    clear c0 c1 c2 c3
    refine (HD0.out w2).mono ?_
    rintro e w3 ⟨rfl, hb⟩
    have HBn := hide (HB.out.trans (hb.mono HB.out.size))
    have HXn := hide ((hb.block _ (Array.getElem?_eq_some_iff.1 HX.out).1).trans HX.out)
    clear HB HX hb
    have HB := HBn
    have HX := HXn
    clear HBn HXn
    have c0 := cell_of_row _ _ 0 _ _ _ HX.out
    have c1 := cell_of_row _ _ 1 _ _ _ HX.out
    have c2 := cell_of_row _ _ 2 _ _ _ HX.out
    have c3 := cell_of_row _ _ 3 _ _ _ HX.out
    go_wp2_with fail
    clear c0 c1 c2 c3
    refine (HD1.out w3).mono ?_
    rintro e w4 ⟨rfl, hb⟩
    have HBn := hide (HB.out.trans (hb.mono HB.out.size))
    have HXn := hide ((hb.block _ (Array.getElem?_eq_some_iff.1 HX.out).1).trans HX.out)
    clear HB HX hb
    have HB := HBn
    have HX := HXn
    clear HBn HXn
    have c0 := cell_of_row _ _ 0 _ _ _ HX.out
    have c1 := cell_of_row _ _ 1 _ _ _ HX.out
    have c2 := cell_of_row _ _ 2 _ _ _ HX.out
    have c3 := cell_of_row _ _ 3 _ _ _ HX.out
    go_wp2_with fail
    clear c0 c1 c2 c3
    go_ret
    refine ⟨congrArg (fun s => Ending.returned (Value.string s)) ?_, HB.out⟩
    apply ByteArray.ext
    apply Array.toList_inj.1
    simp only [ByteArray.data_append, Array.toList_append]
    rw [HSt.out, HT.out, t0.out, t1.out]
    simp [catT, opT]
  · rw [hn] at hOs hT hops
    have HT := hide hT
    have n0 := hnum x.a (by rw [hops]; simp)
    have n1 := hnum x.b (by rw [hops]; simp)
    have n2 := hnum x.c (by rw [hops]; simp)
    have d0 := dig10 n0
    have d1 := dig10 n1
    have d2 := dig10 n2
    have HD0 := hide (fun V => rdec_num x.a n0 V)
    have HD1 := hide (fun V => rdec_num x.b n1 V)
    have HD2 := hide (fun V => rdec_num x.c n2 V)
    obtain ⟨D0, e0⟩ : ∃ D : ByteArray, (⟨(Lib.itoa x.a).toArray⟩ : ByteArray) = D := ⟨_, rfl⟩
    obtain ⟨D1, e1⟩ : ∃ D : ByteArray, (⟨(Lib.itoa x.b).toArray⟩ : ByteArray) = D := ⟨_, rfl⟩
    obtain ⟨D2, e2⟩ : ∃ D : ByteArray, (⟨(Lib.itoa x.c).toArray⟩ : ByteArray) = D := ⟨_, rfl⟩
    have s0 : D0.size ≤ 10 := by rw [← e0]; simpa [ByteArray.size] using d0
    have s1 : D1.size ≤ 10 := by rw [← e1]; simpa [ByteArray.size] using d1
    have s2 : D2.size ≤ 10 := by rw [← e2]; simpa [ByteArray.size] using d2
    have t0 := hide (show D0.data.toList = Lib.itoa x.a by rw [← e0])
    have t1 := hide (show D1.data.toList = Lib.itoa x.b by rw [← e1])
    have t2 := hide (show D2.data.toList = Lib.itoa x.c by rw [← e2])
    rw [e0] at HD0
    rw [e1] at HD1
    rw [e2] at HD2
    have k1 : ¬ 9223372036854775807 < S.size + 1 := by omega
    have k2 : ¬ 9223372036854775807 < S.size + 1 + D0.size := by omega
    have k3 : ¬ 9223372036854775807 < S.size + 1 + D0.size + 1 := by omega
    have k4 : ¬ 9223372036854775807 < S.size + 1 + D0.size + 1 + D1.size := by omega
    have k5 : ¬ 9223372036854775807 < S.size + 1 + D0.size + 1 + D1.size + 1 := by omega
    have k6 : ¬ 9223372036854775807 < S.size + 1 + D0.size + 1 + D1.size + 1 + D2.size := by omega
    have k7 : ¬ 9223372036854775807 < S.size + 1 + D0.size + 1 + D1.size + 1 + D2.size + 1 := by omega
    clear hT hops hn hnum h3 n0 d0 e0 n1 d1 e1 n2 d2 e2
    refine (HO.out w0).mono ?_
    rintro e w1 ⟨rfl, hb⟩
    have HBn := hide (HB.out.trans (hb.mono HB.out.size))
    have HXn := hide ((hb.block _ (Array.getElem?_eq_some_iff.1 HX.out).1).trans HX.out)
    clear HB HX hb
    have HB := HBn
    have HX := HXn
    clear HBn HXn
    have c0 := cell_of_row _ _ 0 _ _ _ HX.out
    have c1 := cell_of_row _ _ 1 _ _ _ HX.out
    have c2 := cell_of_row _ _ 2 _ _ _ HX.out
    have c3 := cell_of_row _ _ 3 _ _ _ HX.out
    go_wp2_with fail
    clear c0 c1 c2 c3
    refine (HW.out w1).mono ?_
    rintro e w2 ⟨rfl, hb⟩
    have HBn := hide (HB.out.trans (hb.mono HB.out.size))
    have HXn := hide ((hb.block _ (Array.getElem?_eq_some_iff.1 HX.out).1).trans HX.out)
    clear HB HX hb
    have HB := HBn
    have HX := HXn
    clear HBn HXn
    have c0 := cell_of_row _ _ 0 _ _ _ HX.out
    have c1 := cell_of_row _ _ 1 _ _ _ HX.out
    have c2 := cell_of_row _ _ 2 _ _ _ HX.out
    have c3 := cell_of_row _ _ 3 _ _ _ HX.out
    go_wp2_with fail
    clear c0 c1 c2 c3
    refine (HD0.out w2).mono ?_
    rintro e w3 ⟨rfl, hb⟩
    have HBn := hide (HB.out.trans (hb.mono HB.out.size))
    have HXn := hide ((hb.block _ (Array.getElem?_eq_some_iff.1 HX.out).1).trans HX.out)
    clear HB HX hb
    have HB := HBn
    have HX := HXn
    clear HBn HXn
    have c0 := cell_of_row _ _ 0 _ _ _ HX.out
    have c1 := cell_of_row _ _ 1 _ _ _ HX.out
    have c2 := cell_of_row _ _ 2 _ _ _ HX.out
    have c3 := cell_of_row _ _ 3 _ _ _ HX.out
    go_wp2_with fail
    clear c0 c1 c2 c3
    refine (HD1.out w3).mono ?_
    rintro e w4 ⟨rfl, hb⟩
    have HBn := hide (HB.out.trans (hb.mono HB.out.size))
    have HXn := hide ((hb.block _ (Array.getElem?_eq_some_iff.1 HX.out).1).trans HX.out)
    clear HB HX hb
    have HB := HBn
    have HX := HXn
    clear HBn HXn
    have c0 := cell_of_row _ _ 0 _ _ _ HX.out
    have c1 := cell_of_row _ _ 1 _ _ _ HX.out
    have c2 := cell_of_row _ _ 2 _ _ _ HX.out
    have c3 := cell_of_row _ _ 3 _ _ _ HX.out
    go_wp2_with fail
    clear c0 c1 c2 c3
    refine (HD2.out w4).mono ?_
    rintro e w5 ⟨rfl, hb⟩
    have HBn := hide (HB.out.trans (hb.mono HB.out.size))
    have HXn := hide ((hb.block _ (Array.getElem?_eq_some_iff.1 HX.out).1).trans HX.out)
    clear HB HX hb
    have HB := HBn
    have HX := HXn
    clear HBn HXn
    have c0 := cell_of_row _ _ 0 _ _ _ HX.out
    have c1 := cell_of_row _ _ 1 _ _ _ HX.out
    have c2 := cell_of_row _ _ 2 _ _ _ HX.out
    have c3 := cell_of_row _ _ 3 _ _ _ HX.out
    go_wp2_with fail
    clear c0 c1 c2 c3
    go_ret
    refine ⟨congrArg (fun s => Ending.returned (Value.string s)) ?_, HB.out⟩
    apply ByteArray.ext
    apply Array.toList_inj.1
    simp only [ByteArray.data_append, Array.toList_append]
    rw [HSt.out, HT.out, t0.out, t1.out, t2.out]
    simp [catT, opT]
end Go.Proofs.YtgbfaompondolaaGreatDoor
