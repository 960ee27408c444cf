/-
  parse: ParseCodes returns true: an instruction with numbers.
-/
import Derived.Test.YtlngbjphagnloaaGreatDoorCds4
import Derived.Deep.DeepCutAuto
namespace Go.Proofs.YtlngbjphagnloaaGreatDoor
open Go.RowKit
attribute [local go_sem] Later.cell
theorem held12 {x : World} {a0 a1 a2 a3 a4 a5 a6 a7 a8 a9 aa ab : Nat × Nat} {v0 v1 v2 v3 v4 v5 v6 v7 v8 v9 va vb : Value}
    (k0 : x.cell? ⟨a0.1, a0.2, none⟩ = some v0) (k1 : x.cell? ⟨a1.1, a1.2, none⟩ = some v1) (k2 : x.cell? ⟨a2.1, a2.2, none⟩ = some v2) (k3 : x.cell? ⟨a3.1, a3.2, none⟩ = some v3)
    (k4 : x.cell? ⟨a4.1, a4.2, none⟩ = some v4) (k5 : x.cell? ⟨a5.1, a5.2, none⟩ = some v5) (k6 : x.cell? ⟨a6.1, a6.2, none⟩ = some v6) (k7 : x.cell? ⟨a7.1, a7.2, none⟩ = some v7)
    (k8 : x.cell? ⟨a8.1, a8.2, none⟩ = some v8) (k9 : x.cell? ⟨a9.1, a9.2, none⟩ = some v9) (ka : x.cell? ⟨aa.1, aa.2, none⟩ = some va) (kb : x.cell? ⟨ab.1, ab.2, none⟩ = some vb)
    (l0 : a0.1 < x.heap.size) (l1 : a1.1 < x.heap.size) (l2 : a2.1 < x.heap.size) (l3 : a3.1 < x.heap.size) (l4 : a4.1 < x.heap.size) (l5 : a5.1 < x.heap.size) (l6 : a6.1 < x.heap.size) (l7 : a7.1 < x.heap.size) (l8 : a8.1 < x.heap.size) (l9 : a9.1 < x.heap.size) (la : aa.1 < x.heap.size) (lb : ab.1 < x.heap.size)
    (V : World) (h : Below x.heap.size x V) :
    Below x.heap.size x V ∧ V.cell? ⟨a0.1, a0.2, none⟩ = some v0 ∧ V.cell? ⟨a1.1, a1.2, none⟩ = some v1 ∧ V.cell? ⟨a2.1, a2.2, none⟩ = some v2 ∧ V.cell? ⟨a3.1, a3.2, none⟩ = some v3 ∧ V.cell? ⟨a4.1, a4.2, none⟩ = some v4 ∧ V.cell? ⟨a5.1, a5.2, none⟩ = some v5 ∧ V.cell? ⟨a6.1, a6.2, none⟩ = some v6 ∧ V.cell? ⟨a7.1, a7.2, none⟩ = some v7 ∧ V.cell? ⟨a8.1, a8.2, none⟩ = some v8 ∧ V.cell? ⟨a9.1, a9.2, none⟩ = some v9 ∧ V.cell? ⟨aa.1, aa.2, none⟩ = some va ∧ V.cell? ⟨ab.1, ab.2, none⟩ = some vb :=
  ⟨h, (h.cell (p := ⟨_, _, none⟩) l0).trans k0, (h.cell (p := ⟨_, _, none⟩) l1).trans k1, (h.cell (p := ⟨_, _, none⟩) l2).trans k2, (h.cell (p := ⟨_, _, none⟩) l3).trans k3, (h.cell (p := ⟨_, _, none⟩) l4).trans k4, (h.cell (p := ⟨_, _, none⟩) l5).trans k5, (h.cell (p := ⟨_, _, none⟩) l6).trans k6, (h.cell (p := ⟨_, _, none⟩) l7).trans k7, (h.cell (p := ⟨_, _, none⟩) l8).trans k8, (h.cell (p := ⟨_, _, none⟩) l9).trans k9, (h.cell (p := ⟨_, _, none⟩) la).trans ka, (h.cell (p := ⟨_, _, none⟩) lb).trans kb⟩
set_option maxRecDepth 100000 in
set_option maxHeartbeats 4000000 in
theorem codes_in (op a b c : Nat) (h1 : 1 ≤ op) (h2 : op ≤ 25) (ha : a ≤ 1073741824) (hb : b ≤ 1073741824) (hc : c ≤ 1073741824) (W : World) (hE : Hid (Env W)) (hP : Hid (EnvP W)) :
    Calls Tryz.prog 6 #[.int .u8 (op : Int), .int .i64 (a : Int), .int .i64 (b : Int), .int .i64 (c : Int)] W fun e w' => e = .returned (.bool true) ∧ Below W.heap.size W w' := by
  obtain ⟨hlen, hA, hB, hC, hD⟩ := codes_plain op a b c h1 h2 ha hb hc
  have hk3 := ops_len op h2
  have hd10 : ∀ d ∈ [digs a, digs b, digs c], d.length ≤ 10 := fun d hd => by
    simp only [List.mem_cons, List.not_mem_nil, or_false] at hd
    rcases hd with rfl | rfl | rfl
    · exact (digsF_ok 9 a (by omega)).2.2.2.2.1
    · exact (digsF_ok 9 b (by omega)).2.2.2.2.1
    · exact (digsF_ok 9 c (by omega)).2.2.2.2.1
  have hTz := fun i hi => insT_size op h2 [digs a, digs b, digs c] hd10 i hi
  have hTs := fun i d h => insT_step op [digs a, digs b, digs c] i d h
  have hT0 : (⟨(wordN insWords op).toArray⟩ : ByteArray) = insT op [digs a, digs b, digs c] 0 := by unfold insT; simp
  have hTk : insT op [digs a, digs b, digs c] (wordN insOps op).length = ⟨(insL op [digs a, digs b, digs c]).toArray⟩ := rfl
  have hne : (⟨(wordN insWords op).toArray⟩ : ByteArray).toList.isEmpty = false := by
    rcases wcase (ws := insWords) (by decide) op 25 rfl 25 rfl with ⟨_, h⟩ | ⟨_, _, h⟩ | ⟨h, _⟩
    · omega
    · omega
    · exact h
  have HW := hide (fun V hP => pword_any op V hP (by omega))
  have HO := hide (fun V hP => operands_any op V hP (by omega))
  have HN := hide (fun (n : Nat) (hn : n ≤ 1073741824) V => digits_any 9 n (by omega) (by omega) hn V)
  rw [hT0] at hne HW
  have hOs : (⟨(wordN insOps op).toArray⟩ : ByteArray).size = (wordN insOps op).length := by simp [ByteArray.size]
  have hIn : insOf op a b c = ⟨op, if 0 < (wordN insOps op).length then (a : Int) else 0, if 1 < (wordN insOps op).length then (b : Int) else 0, if 2 < (wordN insOps op).length then (c : Int) else 0⟩ := rfl
  generalize insOf op a b c = I at *
  generalize (⟨(wordN insOps op).toArray⟩ : ByteArray) = O at *
  generalize (wordN insOps op).length = k at *
  generalize insT op [digs a, digs b, digs c] = T at *
  generalize insL op [digs a, digs b, digs c] = s at *
  have hsz : (⟨s.toArray⟩ : ByteArray).size ≤ 100 := by rw [← hTk]; exact hTz k hk3
  have HA := hide (fun V hE hP => code_call (⟨#[110, 101, 120, 116, 59, 32]⟩ ++ ⟨s.toArray⟩ ++ ⟨#[59]⟩) [⟨19, 0, 0, 0⟩, I] 0 0 (by rw [show (⟨#[110, 101, 120, 116, 59, 32]⟩ ++ (⟨s.toArray⟩ : ByteArray) ++ ⟨#[59]⟩).data.toList = srcA s by simp [ByteArray.data_append, srcA]]; exact hA _) V hE hP)
  have HB := hide (fun V hE hP => parse_call (⟨#[109, 111, 100, 117, 108, 101, 32, 109, 32, 109, 101, 109, 32, 49, 32, 102, 114, 97, 109, 101, 32, 49, 32, 123, 32, 112, 97, 114, 116, 32, 112, 32, 112, 101, 114, 105, 111, 100, 32, 49, 32, 108, 101, 110, 103, 116, 104, 32, 49, 32, 109, 101, 109, 32, 49, 32, 123, 32, 112, 114, 111, 99, 32, 97, 32, 112, 114, 105, 111, 32, 49, 32, 112, 101, 114, 105, 111, 100, 32, 48, 32, 108, 105, 109, 105, 116, 32, 48, 32, 123, 32]⟩ ++ ⟨s.toArray⟩ ++ ⟨#[59, 32, 125, 32, 125, 32, 125]⟩) (cfgOf I) 0 0 (by rw [show (⟨#[109, 111, 100, 117, 108, 101, 32, 109, 32, 109, 101, 109, 32, 49, 32, 102, 114, 97, 109, 101, 32, 49, 32, 123, 32, 112, 97, 114, 116, 32, 112, 32, 112, 101, 114, 105, 111, 100, 32, 49, 32, 108, 101, 110, 103, 116, 104, 32, 49, 32, 109, 101, 109, 32, 49, 32, 123, 32, 112, 114, 111, 99, 32, 97, 32, 112, 114, 105, 111, 32, 49, 32, 112, 101, 114, 105, 111, 100, 32, 48, 32, 108, 105, 109, 105, 116, 32, 48, 32, 123, 32]⟩ ++ (⟨s.toArray⟩ : ByteArray) ++ ⟨#[59, 32, 125, 32, 125, 32, 125]⟩).data.toList = srcB s by simp [ByteArray.data_append, srcB]]; exact hB _) V hE hP)
  have HC := hide (fun V hE hP => code_call (⟨s.toArray⟩ ++ ⟨#[32, 49, 59]⟩) [] (s.length + 1) 80 (by rw [show ((⟨s.toArray⟩ : ByteArray) ++ ⟨#[32, 49, 59]⟩).data.toList = srcC s by simp [ByteArray.data_append, srcC]]; exact hC _) V hE hP)
  have HD := hide (fun V hE hP => code_call ⟨s.toArray⟩ [] s.length 80 (by rw [show (⟨s.toArray⟩ : ByteArray).data.toList = s by simp]; rw [hD]; simp [ByteArray.size]) V hE hP)
  have hsl : s.length = (⟨s.toArray⟩ : ByteArray).size := by simp [ByteArray.size]
  rw [hsl] at HC HD
  generalize (⟨s.toArray⟩ : ByteArray) = Z at *
  have HTk := hide hTk
  have HTs := hide hTs
  have HTz := hide hTz
  have HI := hide hIn
  clear hA hB hC hD hd10 hTz hTs hT0 hTk hIn hlen hsl
  have o1 : 1 ≤ (op : Int) := by omega
  have o2 : (op : Int) ≤ 25 := by omega
  have a1 : 0 ≤ (a : Int) ∧ (a : Int) ≤ 1073741824 := by omega
  have b1 : 0 ≤ (b : Int) ∧ (b : Int) ≤ 1073741824 := by omega
  have c1 : 0 ≤ (c : Int) ∧ (c : Int) ≤ 1073741824 := by omega
  have k1 : (k : Int) ≤ 3 := by omega
  go_enter Tryz.func6, Tryz.ntmps6
  go_wp2_with fail
  refine (awake_any W hE hP).mono ?_
  rintro e w1 ⟨rfl, hb1⟩
  have HB1 := hide hb1
  have HE1 := hide (hE.out.kept hb1)
  have HP1 := hide (hP.out.below hb1)
  clear hb1
  go_wp2_with fail
  refine (HW.out w1 HP1).mono ?_
  rintro e w2 ⟨rfl, hb2⟩
  have HB2 := hide (HB1.out.trans (hb2.mono HB1.out.size))
  have HE2 := hide (HE1.out.kept hb2)
  have HP2 := hide (HP1.out.below hb2)
  clear hb2
  go_wp2_with fail
  refine (HO.out w2 HP2).mono ?_
  rintro e w3 ⟨rfl, hb3⟩
  have HB3 := hide (HB2.out.trans (hb3.mono HB2.out.size))
  have HE3 := hide (HE2.out.kept hb3)
  have HP3 := hide (HP2.out.below hb3)
  clear hb3 HB1 HB2 HE1 HE2 HP1 HP2 HW HO
  have hO : (O.size : Int) ≤ 3 := by omega
  go_wp2_with fail
  have hb35 := ((Below.refl w3.heap.size w3).alloc (Nat.le_refl _) (.cells #[.int .i64 (a : Int), .int .i64 (b : Int), .int .i64 (c : Int)] 3)).alloc (by simp) (.cells #[.int .u8 (op : Int), .int .i64 0, .int .i64 0, .int .i64 0] 60)
  have hnb : ((w3.alloc (.cells #[.int .i64 (a : Int), .int .i64 (b : Int), .int .i64 (c : Int)] 3)).alloc (.cells #[.int .u8 (op : Int), .int .i64 0, .int .i64 0, .int .i64 0] 60)).heap[w3.heap.size]? = some (.cells #[.int .i64 (a : Int), .int .i64 (b : Int), .int .i64 (c : Int)] 3 (0, 0)) := (Below.heap_alloc _ _ _ (by simp)).trans (heap_alloc_new w3 _)
  have hwb : ((w3.alloc (.cells #[.int .i64 (a : Int), .int .i64 (b : Int), .int .i64 (c : Int)] 3)).alloc (.cells #[.int .u8 (op : Int), .int .i64 0, .int .i64 0, .int .i64 0] 60)).heap[w3.heap.size + 1]? = some (.cells #[.int .u8 (op : Int), .int .i64 0, .int .i64 0, .int .i64 0] 60 (0, 0)) := by
    have := heap_alloc_new (w3.alloc (.cells #[.int .i64 (a : Int), .int .i64 (b : Int), .int .i64 (c : Int)] 3)) (.cells #[.int .u8 (op : Int), .int .i64 0, .int .i64 0, .int .i64 0] 60)
    rwa [World.size_alloc] at this
  generalize (w3.alloc (.cells #[.int .i64 (a : Int), .int .i64 (b : Int), .int .i64 (c : Int)] 3)).alloc (.cells #[.int .u8 (op : Int), .int .i64 0, .int .i64 0, .int .i64 0] 60) = w5 at *
  have HB5 := hide (HB3.out.trans (hb35.mono HB3.out.size))
  have HE5 := hide (HE3.out.kept hb35)
  have HP5 := hide (HP3.out.below hb35)
  have HNB := hide hnb
  have HWB := hide hwb
  have hnl : w3.heap.size + 1 < w5.heap.size := (Array.getElem?_eq_some_iff.1 hwb).1
  have hWn : W.heap.size ≤ w3.heap.size := HB3.out.size
  clear hb35 hnb hwb HB3 HE3 HP3
  generalize w3.heap.size = nb at *
  go_loopw [13, 14] (fun v13 v14 wr => ∃ i : Nat, i ≤ k ∧ v14 = .int .i64 i ∧ v13 = .string (T i) ∧ Below w5.heap.size w5 wr) (fun _ v14 _ => k - (intOf v14).toNat)
  case atStart => exact ⟨0, by omega, rfl, rfl, Below.refl _ _⟩
  case round =>
    obtain ⟨i, hi, rfl, rfl, hbr⟩ := hrel
    have HBR := hide hbr
    by_cases hlt : i < k
    case pos =>
      obtain ⟨n, hn, hn1, hd⟩ : ∃ n : Nat, n ≤ 1073741824 ∧ w5.cell? ⟨nb, i, none⟩ = some (.int .i64 (n : Int)) ∧ [digs a, digs b, digs c][i]? = some (digs n) := by
        have hcl := fun j => cell_of_row w5 nb j _ _ _ HNB.out
        rcases (by omega : i = 0 ∨ i = 1 ∨ i = 2) with rfl | rfl | rfl
        · exact ⟨a, ha, hcl 0, rfl⟩
        · exact ⟨b, hb, hcl 1, rfl⟩
        · exact ⟨c, hc, hcl 2, rfl⟩
      have hcell := (hbr.cell (p := ⟨nb, i, none⟩) (show nb < w5.heap.size by omega)).trans hn1
      obtain ⟨D, hDD⟩ : ∃ D : ByteArray, ⟨(digsF 9 n).toArray⟩ = D := ⟨_, rfl⟩
      have hDs : D.size ≤ 10 := by
        rw [← hDD]
        show (digsF 9 n).toArray.size ≤ 10
        rw [List.size_toArray]
        exact (digsF_ok 9 n (by omega)).2.2.2.2.1
      have HT1 := hide (show T i ++ ⟨#[32]⟩ ++ D = T (i + 1) by rw [← hDD]; exact HTs.out i _ hd)
      have HC1 := hide (fun V => HN.out n hn V)
      rw [hDD] at HC1
      have hz1 := HTz.out i (by omega)
      have g1 : ¬ 9223372036854775807 < (T i).size + 1 := by omega
      have g2 : ¬ 9223372036854775807 < (T i).size + 1 + D.size := by omega
      have i0 : (0 : Int) ≤ (i : Int) := by omega
      have i1 : (i : Int) < 3 := by omega
      have i2 : (i : Int) < (k : Int) := by omega
      have hnb2 : nb < wr.heap.size := by have := hbr.size; omega
      clear hDD hd hn1 hbr
      obtain ⟨X, hX⟩ : ∃ X, T i = X := ⟨_, rfl⟩
      rw [hX] at HT1 hz1 g1 g2 ⊢
      clear hX
      go_wp2_with fail
      refine (HC1.out _).mono ?_
      rintro e w6 ⟨rfl, hb6⟩
      have HB6 := hide (HBR.out.trans (hb6.mono HBR.out.size))
      clear hb6
      go_wp2_with fail
      go_roundw
      case rel => exact ⟨i + 1, by omega, by go_num, by rw [HT1.out], HB6.out⟩
      case measure => simp [intOf]; omega
    case neg =>
      obtain rfl : i = k := by omega
      rw [HTk.out]
      have HWR := hide ((hbr.block (nb + 1) hnl).trans HWB.out)
      have HBW := hide (HB5.out.trans (hbr.mono HB5.out.size))
      clear hbr HBR HNB HWB HE5 HP5 HTs HTz HTk HN HB5
      have hI := HI.out
      clear HI
      obtain ⟨Io, Ia, Ib, Ic⟩ := I
      simp only [InsD.mk.injEq] at hI
      obtain ⟨e0, e1, e2, e3⟩ := hI
      have e0 := e0.symm
      subst e0
      have E1 := hide e1
      have E2 := hide e2
      have E3 := hide e3
      clear e1 e2 e3
      go_upto_if 100 with fail
      go_cut [] (fun wx => Hid (wx.heap[nb + 1]? = some (.cells #[.int .u8 (op : Int), .int .i64 Ia, .int .i64 0, .int .i64 0] 60 (0, 0))) ∧ Hid (Below W.heap.size W wx))
      case first =>
        as_aux_lemma =>
          obtain ⟨c0, c1, c2, c3, f0, f1, f2, f3⟩ := row4 HWR.out rfl
          have hl := (Array.getElem?_eq_some_iff.1 HWR.out).1
          have hz := E1.out
          by_cases h0 : 0 < i
          · rw [if_pos h0] at hz
            subst hz
            have HX := hide (heap_setCell_same wr (nb + 1) 1 _ _ (.int .i64 (a : Int)) HWR.out)
            have HY := hide (HBW.out.setCell (p := ⟨nb + 1, 1, none⟩) (by show W.heap.size ≤ nb + 1; omega) (.int .i64 (a : Int)))
            go_wp2_with fail
            go_meet
            exact ⟨HX, HY⟩
          · rw [if_neg h0] at hz
            subst hz
            go_wp2_with fail
            go_meet
            exact ⟨HWR, HBW⟩
      case rest =>
        as_aux_lemma =>
          clear HWR HBW
          obtain ⟨HWR, HBW⟩ := hcut
          obtain ⟨wa, rfl⟩ : ∃ wa, wa = wc := ⟨_, rfl⟩
          go_upto_if 104 with fail
          go_cut [] (fun wx => Hid (wx.heap[nb + 1]? = some (.cells #[.int .u8 (op : Int), .int .i64 Ia, .int .i64 Ib, .int .i64 0] 60 (0, 0))) ∧ Hid (Below W.heap.size W wx))
          case first =>
            as_aux_lemma =>
              obtain ⟨c0, c1, c2, c3, f0, f1, f2, f3⟩ := row4 HWR.out rfl
              have hl := (Array.getElem?_eq_some_iff.1 HWR.out).1
              have hz := E2.out
              by_cases h0 : 1 < i
              · rw [if_pos h0] at hz
                subst hz
                have HX := hide (heap_setCell_same wa (nb + 1) 2 _ _ (.int .i64 (b : Int)) HWR.out)
                have HY := hide (HBW.out.setCell (p := ⟨nb + 1, 2, none⟩) (by show W.heap.size ≤ nb + 1; omega) (.int .i64 (b : Int)))
                go_wp2_with fail
                go_meet
                exact ⟨HX, HY⟩
              · rw [if_neg h0] at hz
                subst hz
                go_wp2_with fail
                go_meet
                exact ⟨HWR, HBW⟩
          case rest =>
            as_aux_lemma =>
              clear HWR HBW
              obtain ⟨HWR, HBW⟩ := hcut
              obtain ⟨wb, rfl⟩ : ∃ wb, wb = wc := ⟨_, rfl⟩
              go_upto_if 108 with fail
              go_cut [] (fun wx => Hid (wx.heap[nb + 1]? = some (.cells #[.int .u8 (op : Int), .int .i64 Ia, .int .i64 Ib, .int .i64 Ic] 60 (0, 0))) ∧ Hid (Below W.heap.size W wx))
              case first =>
                as_aux_lemma =>
                  obtain ⟨c0, c1, c2, c3, f0, f1, f2, f3⟩ := row4 HWR.out rfl
                  have hl := (Array.getElem?_eq_some_iff.1 HWR.out).1
                  have hz := E3.out
                  by_cases h0 : 2 < i
                  · rw [if_pos h0] at hz
                    subst hz
                    have HX := hide (heap_setCell_same wb (nb + 1) 3 _ _ (.int .i64 (c : Int)) HWR.out)
                    have HY := hide (HBW.out.setCell (p := ⟨nb + 1, 3, none⟩) (by show W.heap.size ≤ nb + 1; omega) (.int .i64 (c : Int)))
                    go_wp2_with fail
                    go_meet
                    exact ⟨HX, HY⟩
                  · rw [if_neg h0] at hz
                    subst hz
                    go_wp2_with fail
                    go_meet
                    exact ⟨HWR, HBW⟩
              case rest =>
                as_aux_lemma =>
                  clear HWR HBW
                  obtain ⟨HXR, HBX⟩ := hcut
                  go_wp2_with fail
                  obtain ⟨X, rfl⟩ : ∃ X, X = wc := ⟨_, rfl⟩
                  refine (HA.out X (hide (hE.out.kept HBX.out)) (hide (hP.out.below HBX.out))).mono ?_
                  rintro e x1 ⟨A1, q1, rfl, hb1, ho1⟩
                  obtain ⟨g, cap, hv, _, hlt⟩ := ho1.form (by simp)
                  obtain rfl : A1 = some ⟨g, 0, none⟩ := by injection hv
                  have hca := fun j (hj : j < 2 * 4) => World.ownsRow.cellAt ho1 j (by simpa using hj)
                  have l4 := hca 4 (by decide)
                  have l5 := hca 5 (by decide)
                  have l6 := hca 6 (by decide)
                  have l7 := hca 7 (by decide)
                  simp [insCells] at l4 l5 l6 l7
                  have HB1 := hide (HBX.out.trans (hb1.mono HBX.out.size))
                  have HX1 := hide ((hb1.block (nb + 1) (Array.getElem?_eq_some_iff.1 HXR.out).1).trans HXR.out)
                  have HL := hide (And.intro l4 (And.intro l5 (And.intro l6 l7)))
                  clear hb1 ho1 hv hca l4 l5 l6 l7 HXR HBX HA
                  go_wp2_with fail
                  as_aux_lemma =>
                    refine (HB.out x1 (hide (hE.out.kept HB1.out)) (hide (hP.out.below HB1.out))).mono ?_
                    rintro e x2 ⟨A2, q2, rfl, hb2, hD2⟩
                    rw [show (cfgVal A2 q2 (cfgOf ⟨op, Ia, Ib, Ic⟩)).toArray = #[.slice (A2 0) 1 (q2 0), .slice (A2 1) 0 (q2 1), .slice (A2 2) 0 (q2 2), .slice (A2 3) 0 (q2 3), .slice (A2 4) 0 (q2 4), .slice (A2 5) 0 (q2 5), .slice (A2 6) 0 (q2 6), .slice (A2 7) 0 (q2 7)] from rfl]
                    obtain ⟨M, mc, hmv, hMR⟩ := ((hD2.2 0 _ _ rfl rfl).mono (H := fun _ => True) (fun _ _ _ => trivial)).slice
                    injection hmv with hm1 hm2 hm3
                    obtain ⟨b1, o1, hM1, hbl1, hm⟩ := hMR.at_ (l := (cfgOf ⟨op, Ia, Ib, Ic⟩).modules) (k := 0) rfl
                    obtain ⟨u3, g3, D3⟩ := hm 3 _ rfl
                    obtain ⟨P, pc, rfl, hPR⟩ := D3.slice
                    obtain ⟨b2, o2, rfl, hbl2, hp⟩ := hPR.at_ (k := 0) rfl
                    obtain ⟨u9, g9, D9⟩ := hp 9 _ rfl
                    obtain ⟨R, rc, rfl, hRR⟩ := D9.slice
                    obtain ⟨b3, o3, rfl, hbl3, hr⟩ := hRR.at_ (k := 0) rfl
                    obtain ⟨u4, g4, D4⟩ := hr 4 _ rfl
                    obtain ⟨C4, c4, rfl, -⟩ := D4.slice
                    simp only [List.length_map, List.length_cons, List.length_nil, Nat.zero_mul, Nat.add_zero, Nat.zero_add] at g3 g9 g4
                    have HA0 := hide (hm1.trans hM1)
                    clear hm3
                    have HZ2 := hide ((hb2.block (nb + 1) (Array.getElem?_eq_some_iff.1 HX1.out).1).trans HX1.out)
                    have HL2 := hide (And.intro ((hb2.cell (p := ⟨g, 4, none⟩) hlt).trans HL.out.1) (And.intro ((hb2.cell (p := ⟨g, 5, none⟩) hlt).trans HL.out.2.1) (And.intro ((hb2.cell (p := ⟨g, 6, none⟩) hlt).trans HL.out.2.2.1) ((hb2.cell (p := ⟨g, 7, none⟩) hlt).trans HL.out.2.2.2))))
                    have HB2 := hide (HB1.out.trans (hb2.mono HB1.out.size))
                    have hgl2 : g < x2.heap.size := Nat.lt_of_lt_of_le hlt hb2.size
                    have hnb2 : nb + 1 < x2.heap.size := (Array.getElem?_eq_some_iff.1 HZ2.out).1
                    have HD4 := hide D4
                    clear hMR hm D3 hPR hp D9 hRR hr D4 hD2 hb2 HX1 HL HB1 hm1 hM1 HB
                    go_wp2_with fail
                    have hy := heap_alloc_new x2 (.cells #[.slice (A2 0) 1 (q2 0), .slice (A2 1) 0 (q2 1), .slice (A2 2) 0 (q2 2), .slice (A2 3) 0 (q2 3), .slice (A2 4) 0 (q2 4), .slice (A2 5) 0 (q2 5), .slice (A2 6) 0 (q2 6), .slice (A2 7) 0 (q2 7)] 32)
                    have hby := (Below.refl x2.heap.size x2).alloc (Nat.le_refl _) (.cells #[.slice (A2 0) 1 (q2 0), .slice (A2 1) 0 (q2 1), .slice (A2 2) 0 (q2 2), .slice (A2 3) 0 (q2 3), .slice (A2 4) 0 (q2 4), .slice (A2 5) 0 (q2 5), .slice (A2 6) 0 (q2 6), .slice (A2 7) 0 (q2 7)] 32)
                    generalize x2.alloc (.cells #[.slice (A2 0) 1 (q2 0), .slice (A2 1) 0 (q2 1), .slice (A2 2) 0 (q2 2), .slice (A2 3) 0 (q2 3), .slice (A2 4) 0 (q2 4), .slice (A2 5) 0 (q2 5), .slice (A2 6) 0 (q2 6), .slice (A2 7) 0 (q2 7)] 32) = x3 at *
                    have HB3 := hide (HB2.out.trans (hby.mono HB2.out.size))
                    refine (HC.out x3 (hide (hE.out.kept HB3.out)) (hide (hP.out.below HB3.out))).mono ?_
                    rintro e x4 ⟨A4, q4, rfl, hb4, -⟩
                    rw [show ((Z.size + 1 : Nat) : Int) = (Z.size : Int) + 1 from rfl]
                    have HB4 := hide (HB3.out.trans (hb4.mono HB3.out.size))
                    go_wp2_with fail
                    refine (HD.out x4 (hide (hE.out.kept HB4.out)) (hide (hP.out.below HB4.out))).mono ?_
                    rintro e x5 ⟨A5, q5, rfl, hb5, -⟩
                    have HB5 := hide (HB4.out.trans (hb5.mono HB4.out.size))
                    have hb35 := hb4.trans (hb5.mono hb4.size)
                    have hb25 := hby.trans (hb35.mono hby.size)
                    have hy5 := (hb35.block x2.heap.size (Array.getElem?_eq_some_iff.1 hy).1).trans hy
                    have k0 := cell_of_row x5 x2.heap.size 0 _ _ _ hy5
                    have k3 := (hb25.cell (p := ⟨b1, o1 + 3, none⟩) hbl1).trans g3
                    have k9 := (hb25.cell (p := ⟨b2, o2 + 9, none⟩) hbl2).trans g9
                    have k4 := (hb25.cell (p := ⟨b3, o3 + 4, none⟩) hbl3).trans g4
                    have l4 := (hb25.cell (p := ⟨g, 4, none⟩) hgl2).trans HL2.out.1
                    have l5 := (hb25.cell (p := ⟨g, 5, none⟩) hgl2).trans HL2.out.2.1
                    have l6 := (hb25.cell (p := ⟨g, 6, none⟩) hgl2).trans HL2.out.2.2.1
                    have l7 := (hb25.cell (p := ⟨g, 7, none⟩) hgl2).trans HL2.out.2.2.2
                    obtain ⟨r0, r1, r2, r3, f0, f1, f2, f3⟩ := row4 ((hb25.block (nb + 1) hnb2).trans HZ2.out) rfl
                    clear f0 f1 f2 f3
                    have b1l : b1 < x5.heap.size := Nat.lt_of_lt_of_le hbl1 hb25.size
                    have b2l : b2 < x5.heap.size := Nat.lt_of_lt_of_le hbl2 hb25.size
                    have b3l : b3 < x5.heap.size := Nat.lt_of_lt_of_le hbl3 hb25.size
                    have gl5 : g < x5.heap.size := Nat.lt_of_lt_of_le hgl2 hb25.size
                    have nb5 : nb + 1 < x5.heap.size := Nat.lt_of_lt_of_le hnb2 hb25.size
                    have x2l : x2.heap.size < x5.heap.size := (Array.getElem?_eq_some_iff.1 hy5).1
                    have HD5 := hide (HD4.out.later hb25)
                    simp at k0
                    rw [HA0.out] at k0
                    as_aux_lemma =>
                      have HSI := hide (fun V (hV : Below x5.heap.size x5 V) => (same_inss (.slice C4 1 c4) (.slice (some ⟨V.heap.size, 0, none⟩) 1 1) [⟨op, Ia, Ib, Ic⟩] [⟨op, Ia, Ib, Ic⟩] (V.alloc (.cells #[.int .u8 (op : Int), .int .i64 Ia, .int .i64 Ib, .int .i64 Ic] 60)).drew (hide (HD5.out.later (hV.alloc hV.size _).drew)) (hide (DAt.block (w := (V.alloc (.cells #[.int .u8 (op : Int), .int .i64 Ia, .int .i64 Ib, .int .i64 Ic] 60)).drew) (heap_alloc_new V _) rfl (by simp [InsD.cells]) (by ((repeat (refine DCells.cons ?_ ?_; first | exact .leaf _ | exact .nil _ _ _ | assumption)); exact DCells.nil)) trivial)) (by simp) (by simp)).mono fun e w' h => (⟨by rw [h.1, eqB_self], (hV.alloc hV.size _).drew.trans (h.2.mono (Nat.le_trans hV.size (by simp [World.drew])))⟩ : e = .returned (.bool true) ∧ Below x5.heap.size x5 w'))
                      have HCL : Hid (∀ w', Below x5.heap.size x5 w' → Below x5.heap.size x5 w' ∧ w'.cell? ⟨x2.heap.size, 0, none⟩ = some (.slice (some ⟨b1, o1, none⟩) 1 (q2 0)) ∧ w'.cell? ⟨b1, o1 + 3, none⟩ = some (.slice (some ⟨b2, o2, none⟩) 1 pc) ∧ w'.cell? ⟨b2, o2 + 9, none⟩ = some (.slice (some ⟨b3, o3, none⟩) 1 rc) ∧ w'.cell? ⟨b3, o3 + 4, none⟩ = some (.slice C4 1 c4) ∧ w'.cell? ⟨g, 4, none⟩ = some (.int .u8 (op : Int)) ∧ w'.cell? ⟨g, 5, none⟩ = some (.int .i64 Ia) ∧ w'.cell? ⟨g, 6, none⟩ = some (.int .i64 Ib) ∧ w'.cell? ⟨g, 7, none⟩ = some (.int .i64 Ic) ∧ w'.cell? ⟨nb + 1, 0, none⟩ = some (.int .u8 (op : Int)) ∧ w'.cell? ⟨nb + 1, 1, none⟩ = some (.int .i64 Ia) ∧ w'.cell? ⟨nb + 1, 2, none⟩ = some (.int .i64 Ib) ∧ w'.cell? ⟨nb + 1, 3, none⟩ = some (.int .i64 Ic)) := hide (held12 (a0 := (x2.heap.size, 0)) (a1 := (b1, o1 + 3)) (a2 := (b2, o2 + 9)) (a3 := (b3, o3 + 4)) (a4 := (g, 4)) (a5 := (g, 5)) (a6 := (g, 6)) (a7 := (g, 7)) (a8 := (nb + 1, 0)) (a9 := (nb + 1, 1)) (aa := (nb + 1, 2)) (ab := (nb + 1, 3)) k0 k3 k9 k4 l4 l5 l6 l7 r0 r1 r2 r3 x2l b1l b2l b3l gl5 gl5 gl5 gl5 nb5 nb5 nb5 nb5)
                      clear hb4 hb5 hby hy hy5 hb25 hb35 HL2 HZ2 HB2 HB3 HB4 g3 g9 g4 HC HD HD4 k0 k3 k9 k4 l4 l5 l6 l7 r0 r1 r2 r3
                      go_wp2_with fail
                      try simp only [List.append_eq, List.cons_append, List.nil_append]
                      have zw : IntKind.i64.wrap ((Z.size : Int) + 1) = (Z.size : Int) + 1 := by
                        simp [IntKind.wrap, IntKind.signed, IntKind.bits]
                        omega
                      go_region_held3 (fun w' => Below x5.heap.size x5 w' ∧ w'.cell? ⟨x2.heap.size, 0, none⟩ = some (.slice (some ⟨b1, o1, none⟩) 1 (q2 0)) ∧ w'.cell? ⟨b1, o1 + 3, none⟩ = some (.slice (some ⟨b2, o2, none⟩) 1 pc) ∧ w'.cell? ⟨b2, o2 + 9, none⟩ = some (.slice (some ⟨b3, o3, none⟩) 1 rc) ∧ w'.cell? ⟨b3, o3 + 4, none⟩ = some (.slice C4 1 c4) ∧ w'.cell? ⟨g, 4, none⟩ = some (.int .u8 (op : Int)) ∧ w'.cell? ⟨g, 5, none⟩ = some (.int .i64 Ia) ∧ w'.cell? ⟨g, 6, none⟩ = some (.int .i64 Ib) ∧ w'.cell? ⟨g, 7, none⟩ = some (.int .i64 Ic) ∧ w'.cell? ⟨nb + 1, 0, none⟩ = some (.int .u8 (op : Int)) ∧ w'.cell? ⟨nb + 1, 1, none⟩ = some (.int .i64 Ia) ∧ w'.cell? ⟨nb + 1, 2, none⟩ = some (.int .i64 Ib) ∧ w'.cell? ⟨nb + 1, 3, none⟩ = some (.int .i64 Ic))
                        (first | assumption | exact HCL.out _ (by first | exact Below.refl _ _ | exact (Below.refl _ _).drew | assumption | go_grown))
                        (first
                          | (go_at_call 21; with_reducible refine (HSI.out _ (by first | exact Below.refl _ _ | assumption | go_grown)).mono ?_; rintro e x6 ⟨rfl, hb6⟩))
                      all_goals
                        go_wp2_with fail
                        go_ret
                        exact ⟨rfl, HB5.out.trans (hb6.mono HB5.out.size)⟩
end Go.Proofs.YtlngbjphagnloaaGreatDoor
