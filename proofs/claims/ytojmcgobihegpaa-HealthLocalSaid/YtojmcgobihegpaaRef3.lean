/-
  The reference of layer 28: Row and Decide: contracts.
-/
import Derived.Test.YtojmcgobihegpaaRef2
import Derived.Test.YtojmcgobihegpaaBest
namespace Go.Proofs.Ytojmcgobihegpaa
open Go.RowKit
set_option maxHeartbeats 800000 in
theorem rrow_bad (a : Option Addr) (n cap : Nat) (m p : ByteArray) (f : Int) (w : World) (hb : badB p f = true) :
    Calls Try.prog 13 #[.slice a n cap, .string m, .string p, .int .u8 f] w fun e w' => e = .returned (.tuple #[.int .i64 (-1), .int .i64 2]) ∧ w = w' := by
  have hcase : f < 1 ∨ (1 ≤ f ∧ 7 < f) ∨ (1 ≤ f ∧ f ≤ 7 ∧ 6 ≤ f ∧ p.toList.isEmpty = false) := by
    unfold badB knownB modularB at hb; grind
  clear hb
  rcases hcase with h | ⟨h, h'⟩ | ⟨h1, h2, h3, h4⟩
  all_goals
    go_enter Try.func13, Try.ntmps13
    go_wp2
    go_ret2
    exact ⟨rfl, rfl⟩
theorem rs_at {B n : Nat} {w w' : World} {b off : Nat} {rs : List HRow} (_hb : b < B) (HL : Hid (rs.length = n))
    (hc : ∀ i r, rs[i]? = some r → r.ok ∧ w.cell? ⟨b, off + i * 5, none⟩ = some (.string r.m) ∧ w.cell? ⟨b, off + i * 5 + 1, none⟩ = some (.string r.p) ∧
    w.cell? ⟨b, off + i * 5 + 2, none⟩ = some (.int .u8 r.f) ∧ w.cell? ⟨b, off + i * 5 + 3, none⟩ = some (.int .u8 r.l) ∧ w.cell? ⟨b, off + i * 5 + 4, none⟩ = some (.int .u8 r.d))
    (hw : ∀ o, w'.cell? ⟨b, o, none⟩ = w.cell? ⟨b, o, none⟩) {k : Nat} (hk : k < n) :
    ∃ r, Hid (rs[k]? = some r) ∧ r.ok ∧ w'.cell? ⟨b, off + k * 5, none⟩ = some (.string r.m) ∧ w'.cell? ⟨b, off + k * 5 + 1, none⟩ = some (.string r.p) ∧
    w'.cell? ⟨b, off + k * 5 + 2, none⟩ = some (.int .u8 r.f) ∧ w'.cell? ⟨b, off + k * 5 + 3, none⟩ = some (.int .u8 r.l) ∧ w'.cell? ⟨b, off + k * 5 + 4, none⟩ = some (.int .u8 r.d) := by
  have hkl : k < rs.length := by have := HL.out; omega
  refine ⟨rs[k], List.getElem?_eq_getElem hkl, ?_⟩
  simp only [hw]
  exact hc k _ (List.getElem?_eq_getElem hkl)
set_option maxRecDepth 100000 in
set_option maxHeartbeats 4000000 in
theorem rrow_ok (a : Option Addr) (n cap : Nat) (rs : List HRow) (m p : ByteArray) (f : Int) (w : World) (hn : n ≤ 9223372036854775807) (HL : Hid (rs.length = n)) (hR : Hid (HRows w.heap.size w a rs)) (hb : badB p f = false) :
    Calls Try.prog 13 #[.slice a n cap, .string m, .string p, .int .u8 f] w fun e w' => e = .returned (.tuple #[.int .i64 (bestIdx rs m p f), .int .i64 0]) ∧ Below w.heap.size w w' := by
  have hf : 1 ≤ f ∧ f ≤ 7 ∧ (f < 6 ∨ 6 ≤ f ∧ p.toList.isEmpty = true) := by unfold badB knownB modularB at hb; grind
  clear hb
  obtain ⟨f1, f2, f3⟩ := hf
  have fin := hide (fun k (h : IsBest rs.length rs m p f k) => isBest_unique h (bestIdx_is rs m p f))
  have g1 : decide (f < 1) = false := by simpa using f1
  have g2 : decide (7 < f) = false := by simpa using f2
  rcases f3 with f3 | ⟨f3, f4⟩
  · go_enter Try.func13, Try.ntmps13
    go_wp2
    go_loopw [10] (fun v10 wr => ∃ R : Int, -1 ≤ R ∧ R ≤ 3 ∧ v10 = .int .i64 R ∧ Hid (∀ (i : Nat) r, rs[i]? = some r → concernsB r m p f = true → rankZ r ≤ R) ∧ Below w.heap.size w wr)
      (fun v10 _ => (intOf v10 + 1).toNat)
    case atStart => exact ⟨3, by omega, by omega, rfl, fun i r _ _ => (rankZ_bd r).2, Below.refl _ _⟩
    case round =>
      obtain ⟨R, hR1, hR2, rfl, HD, hbw⟩ := hrel
      by_cases hp0 : 0 ≤ R
      case neg =>
        go_wp2
        go_ret2
        refine ⟨?_, hbw⟩
        rw [← fin.out (-1) (.inl ⟨rfl, fun i r _ hr => ?_⟩)]
        · rfl
        · cases hc : concernsB r m p f
          · rfl
          · have := HD.out i r hr hc; have := (rankZ_bd r).1; omega
      case pos =>
        have hmeas : (intOf (.int .i64 (R - 1)) + 1).toNat < (intOf (.int .i64 R) + 1).toNat := by simp only [intOf]; omega
        have HME := hide hmeas
        clear hmeas
        obtain ⟨wo, hwo⟩ : ∃ wo : World, wo = wr := ⟨_, rfl⟩
        subst hwo
        go_wp2
        go_loopw [11] (fun v11 wi => ∃ j : Nat, j ≤ n ∧ v11 = .int .i64 j ∧ Hid (∀ (i : Nat) r, i < j → rs[i]? = some r → concernsB r m p f = true → rankZ r < R) ∧ Below w.heap.size w wi)
          (fun v11 _ => n - (intOf v11).toNat)
        case atStart => exact ⟨0, by omega, rfl, fun i r h => absurd h (by omega), hbw⟩
        case round =>
          obtain ⟨j, hj, rfl, HI, hbi⟩ := hrel
          by_cases hlt : j < n
          case neg =>
            go_wp2
            go_roundw
            case rel =>
              refine ⟨R - 1, by omega, by omega, by go_num, fun i r hr hc => ?_, hbi⟩
              have := HI.out i r (by have := HL.out; have := (List.getElem?_eq_some_iff.1 hr).1; omega) hr hc
              omega
            case measure => exact HME.out
          case pos =>
            rcases hR.out with h | ⟨b, off, rfl, hbb, hc⟩
            · exfalso; have := HL.out; rw [h] at this; simp at this; omega
            obtain ⟨r, hr, hok, q0, q1, q2, q3, q4⟩ := rs_at hbb HL hc (fun o => hbi.cell (p := ⟨b, o, none⟩) hbb) hlt
            clear hc
            have hca := hide (fun w => rconcerns_any r m p f w)
            have hra := hide (fun w => rrank_any r w)
            have HBI := hide hbi
            have HBB := hide hbb
            clear hbi hbb hok
            cases hcc : concernsB r m p f
            case false =>
              rw [hcc] at hca
              have HCC := hide hcc
              clear hcc
              obtain ⟨rm, rp, rf, rl, rd⟩ := r
              simp only [HRow.val, HRow.cells] at hca hra q0 q1 q2 q3 q4
              go_wp2_with (go_at_call 28; refine (hca.out _).mono ?_; rintro e w' ⟨rfl, hb1⟩)
              go_roundw
              case rel =>
                refine ⟨j + 1, by omega, by go_num, fun i r' hi hr' hc' => ?_, HBI.out.trans (hb1.mono HBI.out.size)⟩
                rcases Nat.lt_or_ge i j with h | h
                · exact HI.out i r' h hr' hc'
                · obtain rfl : i = j := by omega
                  rw [hr.out] at hr'; cases hr'; rw [HCC.out] at hc'; cases hc'
              case measure => simp [intOf]; omega
            case true =>
              rw [hcc] at hca
              have HCC := hide hcc
              clear hcc
              have HRK := hide (rankZ_bd r)
              by_cases hrk : rankZ r = R
              case pos =>
                have hrk' : (rankZ r == R) = true := by simpa using hrk
                have HRK2 := hide hrk
                clear hrk
                obtain ⟨rm, rp, rf, rl, rd⟩ := r
                simp only [HRow.val, HRow.cells] at hca hra q0 q1 q2 q3 q4
                go_wp2_with (first
                  | (go_at_call 28; refine (hca.out _).mono ?_; rintro e w' ⟨rfl, hb1⟩; have hz1 := hb1.size; have d0 := (hb1.cell (p := ⟨b, off + j * 5, none⟩) (Nat.lt_of_lt_of_le HBB.out HBI.out.size)).trans q0; have d1 := (hb1.cell (p := ⟨b, off + j * 5 + 1, none⟩) (Nat.lt_of_lt_of_le HBB.out HBI.out.size)).trans q1; have d2 := (hb1.cell (p := ⟨b, off + j * 5 + 2, none⟩) (Nat.lt_of_lt_of_le HBB.out HBI.out.size)).trans q2; have d3 := (hb1.cell (p := ⟨b, off + j * 5 + 3, none⟩) (Nat.lt_of_lt_of_le HBB.out HBI.out.size)).trans q3; have d4 := (hb1.cell (p := ⟨b, off + j * 5 + 4, none⟩) (Nat.lt_of_lt_of_le HBB.out HBI.out.size)).trans q4)
                  | (go_at_call 29; refine (hra.out _).mono ?_; rintro e w' ⟨rfl, rfl⟩))
                go_ret2
                refine ⟨?_, (HBI.out.trans (hb1.mono HBI.out.size)).alloc (Nat.le_trans HBI.out.size hb1.size) _⟩
                rw [← fin.out j (.inr ⟨j, _, rfl, by have := HL.out; omega, hr.out, HCC.out, fun i r' _ hr' hc' => ?_⟩)]
                · rfl
                · have h1 := HD.out i r' hr' hc'
                  rw [HRK2.out]
                  rcases Nat.lt_or_ge i j with h | h
                  · exact .inl (HI.out i r' h hr' hc')
                  · omega
              case neg =>
                have hrk' : (rankZ r == R) = false := by simpa using hrk
                have HRK2 := hide hrk
                clear hrk
                obtain ⟨rm, rp, rf, rl, rd⟩ := r
                simp only [HRow.val, HRow.cells] at hca hra q0 q1 q2 q3 q4
                go_wp2_with (first
                  | (go_at_call 28; refine (hca.out _).mono ?_; rintro e w' ⟨rfl, hb1⟩; have hz1 := hb1.size; have d0 := (hb1.cell (p := ⟨b, off + j * 5, none⟩) (Nat.lt_of_lt_of_le HBB.out HBI.out.size)).trans q0; have d1 := (hb1.cell (p := ⟨b, off + j * 5 + 1, none⟩) (Nat.lt_of_lt_of_le HBB.out HBI.out.size)).trans q1; have d2 := (hb1.cell (p := ⟨b, off + j * 5 + 2, none⟩) (Nat.lt_of_lt_of_le HBB.out HBI.out.size)).trans q2; have d3 := (hb1.cell (p := ⟨b, off + j * 5 + 3, none⟩) (Nat.lt_of_lt_of_le HBB.out HBI.out.size)).trans q3; have d4 := (hb1.cell (p := ⟨b, off + j * 5 + 4, none⟩) (Nat.lt_of_lt_of_le HBB.out HBI.out.size)).trans q4)
                  | (go_at_call 29; refine (hra.out _).mono ?_; rintro e w' ⟨rfl, rfl⟩))
                go_roundw
                case rel =>
                  refine ⟨j + 1, by omega, by go_num, fun i r' hi hr' hc' => ?_, (HBI.out.trans (hb1.mono HBI.out.size)).alloc (Nat.le_trans HBI.out.size hb1.size) _⟩
                  rcases Nat.lt_or_ge i j with h | h
                  · exact HI.out i r' h hr' hc'
                  · obtain rfl : i = j := by omega
                    rw [hr.out] at hr'; cases hr'
                    have h1 := HD.out i _ hr.out hc'
                    have h2 := HRK2.out
                    omega
                case measure => simp [intOf]; omega
  · go_enter Try.func13, Try.ntmps13
    go_wp2
    go_loopw [10] (fun v10 wr => ∃ R : Int, -1 ≤ R ∧ R ≤ 3 ∧ v10 = .int .i64 R ∧ Hid (∀ (i : Nat) r, rs[i]? = some r → concernsB r m p f = true → rankZ r ≤ R) ∧ Below w.heap.size w wr)
      (fun v10 _ => (intOf v10 + 1).toNat)
    case atStart => exact ⟨3, by omega, by omega, rfl, fun i r _ _ => (rankZ_bd r).2, Below.refl _ _⟩
    case round =>
      obtain ⟨R, hR1, hR2, rfl, HD, hbw⟩ := hrel
      by_cases hp0 : 0 ≤ R
      case neg =>
        go_wp2
        go_ret2
        refine ⟨?_, hbw⟩
        rw [← fin.out (-1) (.inl ⟨rfl, fun i r _ hr => ?_⟩)]
        · rfl
        · cases hc : concernsB r m p f
          · rfl
          · have := HD.out i r hr hc; have := (rankZ_bd r).1; omega
      case pos =>
        have hmeas : (intOf (.int .i64 (R - 1)) + 1).toNat < (intOf (.int .i64 R) + 1).toNat := by simp only [intOf]; omega
        have HME := hide hmeas
        clear hmeas
        obtain ⟨wo, hwo⟩ : ∃ wo : World, wo = wr := ⟨_, rfl⟩
        subst hwo
        go_wp2
        go_loopw [11] (fun v11 wi => ∃ j : Nat, j ≤ n ∧ v11 = .int .i64 j ∧ Hid (∀ (i : Nat) r, i < j → rs[i]? = some r → concernsB r m p f = true → rankZ r < R) ∧ Below w.heap.size w wi)
          (fun v11 _ => n - (intOf v11).toNat)
        case atStart => exact ⟨0, by omega, rfl, fun i r h => absurd h (by omega), hbw⟩
        case round =>
          obtain ⟨j, hj, rfl, HI, hbi⟩ := hrel
          by_cases hlt : j < n
          case neg =>
            go_wp2
            go_roundw
            case rel =>
              refine ⟨R - 1, by omega, by omega, by go_num, fun i r hr hc => ?_, hbi⟩
              have := HI.out i r (by have := HL.out; have := (List.getElem?_eq_some_iff.1 hr).1; omega) hr hc
              omega
            case measure => exact HME.out
          case pos =>
            rcases hR.out with h | ⟨b, off, rfl, hbb, hc⟩
            · exfalso; have := HL.out; rw [h] at this; simp at this; omega
            obtain ⟨r, hr, hok, q0, q1, q2, q3, q4⟩ := rs_at hbb HL hc (fun o => hbi.cell (p := ⟨b, o, none⟩) hbb) hlt
            clear hc
            have hca := hide (fun w => rconcerns_any r m p f w)
            have hra := hide (fun w => rrank_any r w)
            have HBI := hide hbi
            have HBB := hide hbb
            clear hbi hbb hok
            cases hcc : concernsB r m p f
            case false =>
              rw [hcc] at hca
              have HCC := hide hcc
              clear hcc
              obtain ⟨rm, rp, rf, rl, rd⟩ := r
              simp only [HRow.val, HRow.cells] at hca hra q0 q1 q2 q3 q4
              go_wp2_with (go_at_call 28; refine (hca.out _).mono ?_; rintro e w' ⟨rfl, hb1⟩)
              go_roundw
              case rel =>
                refine ⟨j + 1, by omega, by go_num, fun i r' hi hr' hc' => ?_, HBI.out.trans (hb1.mono HBI.out.size)⟩
                rcases Nat.lt_or_ge i j with h | h
                · exact HI.out i r' h hr' hc'
                · obtain rfl : i = j := by omega
                  rw [hr.out] at hr'; cases hr'; rw [HCC.out] at hc'; cases hc'
              case measure => simp [intOf]; omega
            case true =>
              rw [hcc] at hca
              have HCC := hide hcc
              clear hcc
              have HRK := hide (rankZ_bd r)
              by_cases hrk : rankZ r = R
              case pos =>
                have hrk' : (rankZ r == R) = true := by simpa using hrk
                have HRK2 := hide hrk
                clear hrk
                obtain ⟨rm, rp, rf, rl, rd⟩ := r
                simp only [HRow.val, HRow.cells] at hca hra q0 q1 q2 q3 q4
                go_wp2_with (first
                  | (go_at_call 28; refine (hca.out _).mono ?_; rintro e w' ⟨rfl, hb1⟩; have hz1 := hb1.size; have d0 := (hb1.cell (p := ⟨b, off + j * 5, none⟩) (Nat.lt_of_lt_of_le HBB.out HBI.out.size)).trans q0; have d1 := (hb1.cell (p := ⟨b, off + j * 5 + 1, none⟩) (Nat.lt_of_lt_of_le HBB.out HBI.out.size)).trans q1; have d2 := (hb1.cell (p := ⟨b, off + j * 5 + 2, none⟩) (Nat.lt_of_lt_of_le HBB.out HBI.out.size)).trans q2; have d3 := (hb1.cell (p := ⟨b, off + j * 5 + 3, none⟩) (Nat.lt_of_lt_of_le HBB.out HBI.out.size)).trans q3; have d4 := (hb1.cell (p := ⟨b, off + j * 5 + 4, none⟩) (Nat.lt_of_lt_of_le HBB.out HBI.out.size)).trans q4)
                  | (go_at_call 29; refine (hra.out _).mono ?_; rintro e w' ⟨rfl, rfl⟩))
                go_ret2
                refine ⟨?_, (HBI.out.trans (hb1.mono HBI.out.size)).alloc (Nat.le_trans HBI.out.size hb1.size) _⟩
                rw [← fin.out j (.inr ⟨j, _, rfl, by have := HL.out; omega, hr.out, HCC.out, fun i r' _ hr' hc' => ?_⟩)]
                · rfl
                · have h1 := HD.out i r' hr' hc'
                  rw [HRK2.out]
                  rcases Nat.lt_or_ge i j with h | h
                  · exact .inl (HI.out i r' h hr' hc')
                  · omega
              case neg =>
                have hrk' : (rankZ r == R) = false := by simpa using hrk
                have HRK2 := hide hrk
                clear hrk
                obtain ⟨rm, rp, rf, rl, rd⟩ := r
                simp only [HRow.val, HRow.cells] at hca hra q0 q1 q2 q3 q4
                go_wp2_with (first
                  | (go_at_call 28; refine (hca.out _).mono ?_; rintro e w' ⟨rfl, hb1⟩; have hz1 := hb1.size; have d0 := (hb1.cell (p := ⟨b, off + j * 5, none⟩) (Nat.lt_of_lt_of_le HBB.out HBI.out.size)).trans q0; have d1 := (hb1.cell (p := ⟨b, off + j * 5 + 1, none⟩) (Nat.lt_of_lt_of_le HBB.out HBI.out.size)).trans q1; have d2 := (hb1.cell (p := ⟨b, off + j * 5 + 2, none⟩) (Nat.lt_of_lt_of_le HBB.out HBI.out.size)).trans q2; have d3 := (hb1.cell (p := ⟨b, off + j * 5 + 3, none⟩) (Nat.lt_of_lt_of_le HBB.out HBI.out.size)).trans q3; have d4 := (hb1.cell (p := ⟨b, off + j * 5 + 4, none⟩) (Nat.lt_of_lt_of_le HBB.out HBI.out.size)).trans q4)
                  | (go_at_call 29; refine (hra.out _).mono ?_; rintro e w' ⟨rfl, rfl⟩))
                go_roundw
                case rel =>
                  refine ⟨j + 1, by omega, by go_num, fun i r' hi hr' hc' => ?_, (HBI.out.trans (hb1.mono HBI.out.size)).alloc (Nat.le_trans HBI.out.size hb1.size) _⟩
                  rcases Nat.lt_or_ge i j with h | h
                  · exact HI.out i r' h hr' hc'
                  · obtain rfl : i = j := by omega
                    rw [hr.out] at hr'; cases hr'
                    have h1 := HD.out i _ hr.out hc'
                    have h2 := HRK2.out
                    omega
                case measure => simp [intOf]; omega
set_option maxHeartbeats 800000 in
theorem rdecide_bad (a : Option Addr) (n cap : Nat) (m p : ByteArray) (f : Int) (w : World) (hb : badB p f = true) :
    Calls Try.prog 15 #[.slice a n cap, .string m, .string p, .int .u8 f] w fun e w' => e = .returned (.tuple #[.int .u8 0, .int .u8 0, .int .i64 2]) ∧ w = w' := by
  go_enter Try.func15, Try.ntmps15
  go_wp2_with (go_at_call 13; refine (rrow_bad a n cap m p f _ hb).mono ?_; rintro e w' ⟨rfl, rfl⟩)
  go_ret3
  exact ⟨rfl, rfl⟩
set_option maxHeartbeats 1600000 in
theorem rdecide_dfl (a : Option Addr) (n cap : Nat) (rs : List HRow) (m p : ByteArray) (f : Int) (w : World) (hn : n ≤ 9223372036854775807) (HL : Hid (rs.length = n)) (hR : Hid (HRows w.heap.size w a rs)) (hb : badB p f = false)
    (hi : Hid (bestIdx rs m p f = -1)) :
    Calls Try.prog 15 #[.slice a n cap, .string m, .string p, .int .u8 f] w fun e w' => e = .returned (.tuple #[.int .u8 (dflL f), .int .u8 (dflD f), .int .i64 0]) ∧ Below w.heap.size w w' := by
  have HB := hide hb
  clear hb
  have hrow := hide (rrow_ok a n cap rs m p f w hn HL hR HB.out)
  rw [hi.out] at hrow
  have hk : 1 ≤ f ∧ f ≤ 7 := by have h1 := HB.out; unfold badB knownB at h1; grind
  have hL : (f = 1 ∨ f = 3 ∨ f = 4 → dflL f = 1 ∧ dflD f = 2) ∧ (f = 2 ∨ f = 5 → dflL f = 2 ∧ dflD f = 5) ∧ (f = 6 ∨ f = 7 → dflL f = 3 ∧ dflD f = 7) := by unfold dflL dflD; grind
  obtain ⟨hL1, hL2, hL3⟩ := hL
  have hcase : f = 1 ∨ f = 2 ∨ f = 3 ∨ f = 4 ∨ f = 5 ∨ f = 6 ∨ f = 7 := by omega
  clear hk
  rcases hcase with h | h | h | h | h | h | h
  · have h' := hL1 (by omega); rw [h'.1, h'.2]; clear h' hL1 hL2 hL3; subst h
    go_enter Try.func15, Try.ntmps15
    go_wp2_with (go_at_call 13; refine (hrow.out).mono ?_; rintro e w' ⟨rfl, hbw⟩)
    go_ret3
    exact ⟨rfl, hbw⟩
  · have h' := hL2 (by omega); rw [h'.1, h'.2]; clear h' hL1 hL2 hL3; subst h
    go_enter Try.func15, Try.ntmps15
    go_wp2_with (go_at_call 13; refine (hrow.out).mono ?_; rintro e w' ⟨rfl, hbw⟩)
    go_ret3
    exact ⟨rfl, hbw⟩
  · have h' := hL1 (by omega); rw [h'.1, h'.2]; clear h' hL1 hL2 hL3; subst h
    go_enter Try.func15, Try.ntmps15
    go_wp2_with (go_at_call 13; refine (hrow.out).mono ?_; rintro e w' ⟨rfl, hbw⟩)
    go_ret3
    exact ⟨rfl, hbw⟩
  · have h' := hL1 (by omega); rw [h'.1, h'.2]; clear h' hL1 hL2 hL3; subst h
    go_enter Try.func15, Try.ntmps15
    go_wp2_with (go_at_call 13; refine (hrow.out).mono ?_; rintro e w' ⟨rfl, hbw⟩)
    go_ret3
    exact ⟨rfl, hbw⟩
  · have h' := hL2 (by omega); rw [h'.1, h'.2]; clear h' hL1 hL2 hL3; subst h
    go_enter Try.func15, Try.ntmps15
    go_wp2_with (go_at_call 13; refine (hrow.out).mono ?_; rintro e w' ⟨rfl, hbw⟩)
    go_ret3
    exact ⟨rfl, hbw⟩
  · have h' := hL3 (by omega); rw [h'.1, h'.2]; clear h' hL1 hL2 hL3; subst h
    go_enter Try.func15, Try.ntmps15
    go_wp2_with (go_at_call 13; refine (hrow.out).mono ?_; rintro e w' ⟨rfl, hbw⟩)
    go_ret3
    exact ⟨rfl, hbw⟩
  · have h' := hL3 (by omega); rw [h'.1, h'.2]; clear h' hL1 hL2 hL3; subst h
    go_enter Try.func15, Try.ntmps15
    go_wp2_with (go_at_call 13; refine (hrow.out).mono ?_; rintro e w' ⟨rfl, hbw⟩)
    go_ret3
    exact ⟨rfl, hbw⟩
set_option maxHeartbeats 1600000 in
theorem rdecide_row (a : Option Addr) (n cap : Nat) (rs : List HRow) (m p : ByteArray) (f : Int) (w : World) (hn : n ≤ 9223372036854775807) (HL : Hid (rs.length = n)) (hR : Hid (HRows w.heap.size w a rs)) (hb : badB p f = false)
    (k : Nat) (r : HRow) (hi : Hid (bestIdx rs m p f = k)) (hr : Hid (rs[k]? = some r)) :
    Calls Try.prog 15 #[.slice a n cap, .string m, .string p, .int .u8 f] w fun e w' => e = .returned (.tuple #[.int .u8 r.l, .int .u8 r.d, .int .i64 0]) ∧ Below w.heap.size w w' := by
  have HB := hide hb
  clear hb
  have hrow := hide (rrow_ok a n cap rs m p f w hn HL hR HB.out)
  rw [hi.out] at hrow
  have hk : k < n := by rw [← HL.out]; exact (List.getElem?_eq_some_iff.1 hr.out).1
  have hne : ((k : Int) == -1) = false := by simp
  have hne' : ((k : Int) != -1) = true := by simp
  rcases hR.out with h | ⟨b, off, rfl, hbb, hc⟩
  · exact absurd hr.out (by rw [h]; simp)
  obtain ⟨_, _, _, _, q3, q4⟩ := hc k r hr.out
  clear hc
  have Q3 := hide q3
  have Q4 := hide q4
  clear q3 q4
  obtain ⟨rm, rp, rf, rl, rd⟩ := r
  simp only at Q3 Q4 ⊢
  go_enter Try.func15, Try.ntmps15
  go_wp2_with (go_at_call 13; refine (hrow.out).mono ?_; rintro e w' ⟨rfl, hbw⟩; have c3 := (hbw.cell (p := ⟨b, off + k * 5 + 3, none⟩) hbb).trans Q3.out; have c4 := (hbw.cell (p := ⟨b, off + k * 5 + 4, none⟩) hbb).trans Q4.out)
  go_quiet (fail)
  go_wp2
  go_ret3
  exact ⟨rfl, below_drewN hbw _⟩
end Go.Proofs.Ytojmcgobihegpaa
