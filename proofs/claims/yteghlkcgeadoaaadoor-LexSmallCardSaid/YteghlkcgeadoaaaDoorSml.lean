/-
  LexSmall: the walk.
-/
import Derived.Test.YteghlkcgeadoaaaDoorSpc
import Derived.Test.YteghlkcgeadoaaaDoorAwk
import Derived.Test.YteghlkcgeadoaaaDoorLater
import Derived.Test.YteghlkcgeadoaaaDoorRPlace
namespace Go.Proofs.YteghlkcgeadoaaaDoor
open Go.RowKit
theorem strRow1 (x : Int) : (strOfNums [x]).size = 1 := by rw [strOfNums_size]; rfl
/-- Strings of at most 60 bytes. -/
def Shorts (ss : List ByteArray) : Prop := ∀ s ∈ ss, s.size ≤ 60
theorem ext_le (x : ByteArray) (a b : Nat) : (x.extract a b).size ≤ x.size := by rw [ByteArray.size_extract]; omega
theorem sum_le (s x : ByteArray) (a b j : Nat) (h : s.size ≤ 9 * j) (hx : x.size ≤ 9) : (s ++ x.extract a b).size ≤ 9 * (j + 1) := by
  have := ext_le x a b
  rw [ByteArray.size_append]; omega
def wordsB : List ByteArray := [⟨#[49, 48, 55, 51, 55, 52, 49, 56, 50, 52]⟩, ⟨#[49, 48, 55, 51, 55, 52, 49, 56, 50, 53]⟩, ⟨#[57, 57, 57, 57, 57, 57, 57, 57, 57, 57, 57, 57, 57, 57, 57, 57, 57, 57, 57, 57]⟩, ⟨#[48]⟩, ⟨#[48, 48]⟩, ⟨#[48, 49]⟩, ⟨#[49, 48]⟩, ⟨#[49, 97]⟩, ⟨#[49, 95]⟩, ⟨#[97, 95]⟩, ⟨#[95, 97]⟩, ⟨#[95]⟩, ⟨#[123]⟩, ⟨#[125, 59]⟩, ⟨#[44, 46]⟩, ⟨#[58]⟩, ⟨#[35]⟩, ⟨#[35, 97]⟩, ⟨#[35, 10]⟩, ⟨#[13, 10]⟩, ⟨#[65, 49]⟩, ⟨#[122, 57, 95, 90]⟩]
theorem words_short : Shorts wordsB := by
  intro s hs
  have h : (wordsB.all fun s => decide (s.size ≤ 60)) = true := by decide +kernel
  exact of_decide_eq_true (List.all_eq_true.1 h s hs)
theorem str_one (ss : List ByteArray) : ∀ u ∈ ss.map Value.string, u.oneCell' = true := by
  intro u hu
  obtain ⟨s, _, rfl⟩ := List.mem_map.1 hu
  rfl
theorem word_at {w w' : World} {base n g c : Nat} {ss : List ByteArray} (h : w.ownsRow base 9 1 (.slice (some ⟨g, 0, none⟩) n c) n (ss.map Value.string)) (hs : Shorts ss) (hb : Below w.heap.size w w') {k : Nat} (hk : k < n) : ∃ x : ByteArray, w'.cell? ⟨g, k, none⟩ = some (.string x) ∧ x.size ≤ 60 := by
  have hl : ss.length = n := by have := h.1; simpa using this
  have hkl : k < ss.length := by omega
  refine ⟨ss[k], ?_, hs _ (List.getElem_mem hkl)⟩
  rw [hb.cell (p := ⟨g, k, none⟩) (h.lt g rfl).2, h.cellAt k (by omega), List.getElem?_map, List.getElem?_eq_getElem hkl]
  rfl
def limArr : Array Value := #[.int .i64 (-9223372036854775808), .int .i64 (-1), .int .i64 0, .int .i64 1, .int .i64 2, .int .i64 3, .int .i64 4, .int .i64 5, .int .i64 6, .int .i64 7, .int .i64 8, .int .i64 9223372036854775807]
theorem lim_at (k : Nat) (hk : k < 12) : ∃ z : Int, limArr[k]? = some (.int .i64 z) := by
  rcases (by omega : k = 0 ∨ k = 1 ∨ k = 2 ∨ k = 3 ∨ k = 4 ∨ k = 5 ∨ k = 6 ∨ k = 7 ∨ k = 8 ∨ k = 9 ∨ k = 10 ∨ k = 11) with rfl | rfl | rfl | rfl | rfl | rfl | rfl | rfl | rfl | rfl | rfl | rfl
  all_goals exact ⟨_, rfl⟩
theorem strInfo2 : (Tryd.prog.info? 9).map (fun i => (i.zero, i.size, i.bytes)) = some (some (.string ⟨#[]⟩), 1, 16) := by kernel_rfl
theorem own_form8 {w : World} {base n e : Nat} {v : Value} {xs : List Value} (h : w.ownsRow base e 1 v n xs) (hn : 0 < n) : ∃ g c, v = .slice (some ⟨g, 0, none⟩) n c ∧ base ≤ g ∧ g < w.heap.size ∧ n ≤ c ∧ c ≤ maxLen := by
  rcases h.2 with ⟨-, h0⟩ | ⟨g, cap, cur, hv, hb, hg, hnc, hcm, -, -⟩
  · omega
  · exact ⟨g, cap, hv, hb, (Array.getElem?_eq_some_iff.1 hg).1, hnc, hcm⟩
attribute [local go_sem] Later.cell
set_option maxRecDepth 100000 in
set_option maxHeartbeats 4000000 in
theorem small_any (w : World) (hE : Hid (Env w)) : Calls Tryd.prog 3 #[] w fun e w' => e = .returned (.bool true) ∧ Below w.heap.size w w' := by
  have HL := hide (fun (s : ByteArray) (W : World) (hb : Below w.heap.size w W) => lexes_any s W (hide (hE.out.kept hb)))
  have HPL := hide (fun (s : ByteArray) (a : Int) (W : World) (hs : s.size ≤ 1099511627776) => places_any s a W hs)
  have HAW := hide (fun (W : World) (hb : Below w.heap.size w W) => awake_any W (hide (hE.out.kept hb)))
  go_enter Tryd.func3, Tryd.ntmps3
  go_wp2_with fail
  go_loopw [1] (fun v1 wr => ∃ k : Nat, k ≤ 256 ∧ v1 = .int .i64 k ∧ Below w.heap.size w wr) (fun v1 _ => 256 - (intOf v1).toNat)
  case atStart => exact ⟨0, by omega, rfl, Below.refl _ _⟩
  case round =>
    obtain ⟨k, hk, rfl, hbr⟩ := hrel
    have HBR := hide hbr
    clear hbr
    by_cases hlt : k < 256
    case pos =>
      have hcv : ∀ W : World, (convert 22 9 (.slice (some ⟨W.heap.size, 0, none⟩) 1 1)).run Tryd.prog (W.alloc (.cells #[.int .u8 (k : Int)] 5)) = .ok (.string (strOfNums [(k : Int)])) (W.alloc (.cells #[.int .u8 (k : Int)] 5)) := fun W =>
        BRow.str (xs := [(k : Int)]) (heap_alloc_new W _) rfl
      have hs1 := hide (strRow1 (k : Int))
      have HB1 := hide (HBR.out.alloc HBR.out.size (.cells #[.int .u8 (k : Int)] 5))
      generalize strOfNums [(k : Int)] = s at *
      have hsz : s.size ≤ 1 := by rw [hs1.out]; exact Nat.le_refl _
      go_wp2_with fail
      refine (HL.out _ _ HB1.out).mono ?_
      rintro e w' ⟨rfl, hb⟩
      have HB2 := hide (HB1.out.trans (hb.mono HB1.out.size))
      clear hb HB1
      go_wp2_with fail
      refine (HL.out _ _ HB2.out).mono ?_
      rintro e w' ⟨rfl, hb⟩
      have HB3 := hide (HB2.out.trans (hb.mono HB2.out.size))
      clear hb HB2
      go_wp2_with fail
      refine (HL.out _ _ HB3.out).mono ?_
      rintro e w' ⟨rfl, hb⟩
      have HB4 := hide (HB3.out.trans (hb.mono HB3.out.size))
      clear hb HB3
      go_wp2_with fail
      refine (HL.out _ _ HB4.out).mono ?_
      rintro e w' ⟨rfl, hb⟩
      have HB5 := hide (HB4.out.trans (hb.mono HB4.out.size))
      clear hb HB4
      go_wp2_with fail
      refine (HL.out _ _ HB5.out).mono ?_
      rintro e w' ⟨rfl, hb⟩
      have HB6 := hide (HB5.out.trans (hb.mono HB5.out.size))
      clear hb HB5
      go_wp2_with fail
      refine (HL.out _ _ HB6.out).mono ?_
      rintro e w' ⟨rfl, hb⟩
      have HB7 := hide (HB6.out.trans (hb.mono HB6.out.size))
      clear hb HB6
      go_wp2_with fail
      go_roundw
      case rel => exact ⟨k + 1, by omega, by go_num, HB7.out⟩
      case measure => simp [intOf]; omega
    case neg =>
      have HW1 := HBR
      clear HBR
      go_wp2_with fail
      go_loopw [4] (fun v4 wr => ∃ k : Nat, k ≤ 6561 ∧ v4 = .int .i64 k ∧ Below w.heap.size w wr) (fun v4 _ => 6561 - (intOf v4).toNat)
      case atStart => exact ⟨0, by omega, rfl, HW1.out⟩
      case round =>
        obtain ⟨k2, hk2, rfl, hbr⟩ := hrel
        have HBR := hide hbr
        clear hbr HW1
        by_cases hlt2 : k2 < 6561
        case pos =>
          go_wp2_with fail
          go_loop [5, 6, 7] (fun v5 v6 v7 => ∃ (s : ByteArray) (m : Int) (j : Nat), v5 = .string s ∧ v6 = .int .i64 m ∧ v7 = .int .i64 j ∧ j ≤ 4 ∧ 0 ≤ m ∧ m ≤ 10000 ∧ s.size ≤ 9 * j) (fun _ _ v7 => 4 - (intOf v7).toNat)
          case atStart => exact ⟨⟨#[]⟩, k2, 0, rfl, rfl, rfl, by omega, by omega, by omega, by decide⟩
          case round =>
            obtain ⟨s, m, j, rfl, rfl, rfl, hj, hm0, hm1, hs⟩ := hrel
            by_cases hlt3 : j < 4
            case pos =>
              have h0 : 0 ≤ m % 9 := Int.emod_nonneg m (by decide)
              have h9 : m % 9 < 9 := Int.emod_lt_of_pos m (by decide)
              have hd0 : 0 ≤ m / 9 := Int.ediv_nonneg hm0 (by decide)
              have hd1 : m / 9 ≤ 10000 := by omega
              have HZ := hide (sum_le s ⟨#[97, 48, 95, 32, 46, 10, 35, 123, 63]⟩ (m % 9).toNat (m % 9 + 1).toNat j hs (by decide))
              go_wp2_with fail
              go_round
              case rel => exact ⟨_, _, j + 1, rfl, rfl, by go_num, by omega, hd0, hd1, HZ.out⟩
              case measure => simp [intOf]; omega
            case neg =>
              have hsz : s.size ≤ 1099511627776 := by omega
              have h0 : (0 : Int) ≤ (k2 : Int) % 7 := by omega
              have h7 : (k2 : Int) % 7 < 7 := by omega
              go_wp2_with fail
              refine (HL.out _ _ HBR.out).mono ?_
              rintro e w' ⟨rfl, hb⟩
              have HB2 := hide (HBR.out.trans (hb.mono HBR.out.size))
              clear hb HBR
              go_wp2_with fail
              refine (HPL.out s _ _ hsz).mono ?_
              rintro e w' ⟨rfl, rfl⟩
              go_wp2_with fail
              go_roundw
              case rel => exact ⟨k2 + 1, by omega, by go_num, HB2.out⟩
              case measure => simp [intOf]; omega
        case neg =>
          obtain ⟨j0, hj0, hy0, hy1, hy2⟩ := info_parts strInfo2
          go_wp2_with fail
          have hown0 := World.ownsRow_lit (base := w.heap.size) (e := 9) (size := 1) wr (wordsB.map Value.string).toArray 22 HBR.out.size (by decide) (by rfl)
          have HO0 : Hid ((wr.alloc (.cells (wordsB.map Value.string).toArray 9)).ownsRow w.heap.size 9 1 (.slice (some ⟨wr.heap.size, 0, none⟩) 22 22) 22 (wordsB.map Value.string)) := hown0
          have HB0 := hide (HBR.out.alloc HBR.out.size (.cells (wordsB.map Value.string).toArray 9))
          clear hown0 HBR
          go_loopw [8, 9] (fun v8 v9 wr => ∃ (j : Nat) (ss : List ByteArray), j ≤ 5 ∧ v9 = .int .i64 ((22 + j : Nat) : Int) ∧ wr.ownsRow w.heap.size 9 1 v8 (22 + 3 * j) (ss.map Value.string) ∧ Shorts ss ∧ Below w.heap.size w wr) (fun _ v9 _ => 27 - (intOf v9).toNat)
          case atStart => exact ⟨0, wordsB, by omega, rfl, HO0.out, words_short, HB0.out⟩
          case round =>
            obtain ⟨j4, ss, hj4, rfl, hown, hsh, hbr⟩ := hrel
            have HOW := hide hown
            have HSH := hide hsh
            have HBR := hide hbr
            obtain ⟨g8, c8, hv8, hg8, hg8l, hc8, hc8m⟩ := own_form8 hown (by omega)
            subst hv8
            clear hown hsh hbr HO0 HB0
            generalize hn0 : 22 + j4 = n0 at *
            have HN0 := hide hn0
            clear hn0
            by_cases hlt4 : n0 < 27
            case pos =>
              go_wp2_with fail
              go_loop [10, 11] (fun v10 v11 => ∃ (s : ByteArray) (j : Nat), v10 = .string s ∧ v11 = .int .i64 j ∧ j ≤ n0 ∧ s.size = j) (fun _ v11 => n0 - (intOf v11).toNat)
              case atStart => exact ⟨⟨#[]⟩, 0, rfl, rfl, by omega, rfl⟩
              case round =>
                obtain ⟨s, j, rfl, rfl, hj, hs⟩ := hrel
                by_cases hlt5 : j < n0
                case pos =>
                  have HZ := hide (show (s ++ (⟨#[97]⟩ : ByteArray)).size = j + 1 by rw [ByteArray.size_append, hs]; rfl)
                  have hsl : s.size ≤ 60 := by omega
                  clear hs
                  go_wp2_with fail
                  go_round
                  case rel => exact ⟨_, j + 1, rfl, by go_num, by omega, HZ.out⟩
                  case measure => simp [intOf]; omega
                case neg =>
                  have hsl : s.size ≤ 26 := by omega
                  have hsl1 : 1 ≤ s.size := by have := HN0.out; omega
                  have HS3 : Hid (Shorts (ss ++ [s, (⟨#[90]⟩ : ByteArray) ++ s.extract 1 s.size ++ ⟨#[49]⟩, s ++ ⟨#[95]⟩])) := by
                    intro x hx
                    rcases List.mem_append.1 hx with hx | hx
                    · exact HSH.out x hx
                    · have he := ext_le s 1 s.size
                      simp only [List.mem_cons, List.not_mem_nil, or_false] at hx
                      rcases hx with rfl | rfl | rfl
                      · omega
                      · simp only [ByteArray.size_append]; show 1 + _ + 1 ≤ 60; omega
                      · simp only [ByteArray.size_append]; show _ + 1 ≤ 60; omega
                  clear hs
                  go_wp2_with (at_builtin; apply Hid.out)
                  refine hide ?_
                  refine wpList_append_own _ rfl (.tmp 104) (.tmp 112) 25 rfl w.heap.size 9 j0 _ 1 16 Tryd.underlying25 hj0 hy0 hy1 hy2 rfl (by decide) (.slice (some ⟨g8, 0, none⟩) (22 + 3 * j4) c8) (22 + 3 * j4) (ss.map Value.string) rfl (HOW.out.alloc _) ⟨wr.heap.size, 0, none⟩ 3 3 [.string s, .string ((⟨#[90]⟩ : ByteArray) ++ s.extract 1 s.size ++ ⟨#[49]⟩), .string (s ++ ⟨#[95]⟩)] rfl rfl (news_of (cs := #[.string s, .string ((⟨#[90]⟩ : ByteArray) ++ s.extract 1 s.size ++ ⟨#[49]⟩), .string (s ++ ⟨#[95]⟩)]) rfl) (by simp [Value.oneCell']) (by unfold maxLen; omega) (by omega) (by simp; exact Nat.le_succ_of_le HBR.out.size) ?_
                  intro v9 w9 hown9 hg9 _
                  have HB9 := hide ((HBR.out.alloc HBR.out.size _).grown hg9 (by simp; exact Nat.le_succ_of_le HBR.out.size) (fun r hr => by simp [Value.ownBlock] at hr; omega))
                  have HO9 := hide hown9
                  clear hown9 hg9 HOW HSH HBR
                  go_wp2_with fail
                  go_roundw
                  case rel =>
                    refine ⟨j4 + 1, ss ++ [s, (⟨#[90]⟩ : ByteArray) ++ s.extract 1 s.size ++ ⟨#[49]⟩, s ++ ⟨#[95]⟩], by have := HN0.out; omega, by rw [← HN0.out]; go_num, ?_, HS3.out, HB9.out⟩
                    rw [List.map_append, show 22 + 3 * (j4 + 1) = 22 + 3 * j4 + 3 by omega]
                    exact HO9.out
                  case measure => simp [intOf]; omega
            case neg =>
              have hn27 : n0 = 27 := by have := HN0.out; omega
              have HT := hide (show 22 + 3 * j4 = 37 by have := HN0.out; omega)
              rw [HT.out] at HOW ⊢
              subst hn27
              rw [show ((27 : Nat) : Int) = 27 from rfl]
              have HW3 := HBR
              have HO3 := HOW
              clear HT HN0 HOW HBR
              generalize wr = w3 at *
              go_wp2_with fail
              go_loopw [12] (fun v12 wr => ∃ k6 : Nat, k6 ≤ 37 ∧ v12 = .int .i64 k6 ∧ Below w3.heap.size w3 wr) (fun v12 _ => 37 - (intOf v12).toNat)
              case atStart => exact ⟨0, by omega, rfl, Below.refl _ _⟩
              case round =>
                obtain ⟨k6, hk6, rfl, hbr⟩ := hrel
                have HBR := hide hbr
                clear hbr
                by_cases hlt6 : k6 < 37
                case pos =>
                  generalize wr = w4 at *
                  go_wp2_with fail
                  go_loopw [13] (fun v13 wr => ∃ k7 : Nat, k7 ≤ 37 ∧ v13 = .int .i64 k7 ∧ Below w3.heap.size w3 wr) (fun v13 _ => 37 - (intOf v13).toNat)
                  case atStart => exact ⟨0, by omega, rfl, HBR.out⟩
                  case round =>
                    obtain ⟨k7, hk7, rfl, hbr⟩ := hrel
                    have HBT := hide hbr
                    by_cases hlt7 : k7 < 37
                    case pos =>
                      obtain ⟨x6, c6, s6⟩ := word_at HO3.out HSH.out hbr hlt6
                      obtain ⟨x7, c7, s7⟩ := word_at HO3.out HSH.out hbr hlt7
                      have hz := hbr.size
                      have hgl : g8 < wr.heap.size := by omega
                      have p0 : (0 : Int) ≤ (k6 : Int) := by omega
                      have p1 : (k6 : Int) < ((37 : Nat) : Int) := by omega
                      have p2 : (0 : Int) ≤ (k7 : Int) := by omega
                      have p3 : (k7 : Int) < ((37 : Nat) : Int) := by omega
                      have HLX := hide (fun (x : ByteArray) (s : Later wr) => HL.out x s.w (HW3.out.trans ((HBT.out.trans (s.below.mono hz)).mono HW3.out.size)))
                      clear hbr
                      go_wp2_with fail
                      refine wp_region_later (W := wr) (by kernel_rfl) (by kernel_rfl) ?_
                      iterate 25 (go_big_quiet_step ((go_at_call 4; exact Later.call (HLX.out _ _))))
                      refine wpQuiet_nil ?_
                      rintro _ ⟨sL, rfl⟩
                      go_wp2_with fail
                      go_roundw
                      case rel => exact ⟨k7 + 1, by omega, by go_num, HBT.out.trans (sL.below.mono hz)⟩
                      case measure => simp [intOf]; omega
                    case neg =>
                      go_wp2_with fail
                      go_roundw
                      case rel => exact ⟨k6 + 1, by omega, by go_num, HBT.out⟩
                      case measure => simp [intOf]; omega
                case neg =>
                  have HW4 := hide (HW3.out.trans (HBR.out.mono HW3.out.size))
                  clear HW3 HO3 HSH HBR
                  generalize wr = w4 at *
                  have HXL : Hid ((w4.alloc (.cells limArr 3)).heap[w4.heap.size]? = some (.cells limArr 3 (0, 0))) := heap_alloc_new w4 _
                  have HXB := hide (HW4.out.alloc HW4.out.size (.cells limArr 3))
                  go_wp2_with fail
                  have hgen : ∃ w5, w5 = w4.alloc (.cells limArr 3) := ⟨_, rfl⟩
                  obtain ⟨w5, hw5⟩ := hgen
                  rw [← hw5] at HXL HXB
                  change Code.wp _ _ _ _ (w4.alloc (.cells limArr 3))
                  rw [← hw5]
                  clear hw5
                  generalize w4.heap.size = b8 at *
                  go_loopw [15] (fun v15 wr => ∃ k8 : Nat, k8 ≤ 12 ∧ v15 = .int .i64 k8 ∧ Below w5.heap.size w5 wr) (fun v15 _ => 12 - (intOf v15).toNat)
                  case atStart => exact ⟨0, by omega, rfl, Below.refl _ _⟩
                  case round =>
                    obtain ⟨k8, hk8, rfl, hbr⟩ := hrel
                    have HBR := hide hbr
                    clear hbr
                    by_cases hlt8 : k8 < 12
                    case pos =>
                      obtain ⟨z, hz⟩ := lim_at k8 hlt8
                      have hcell := cell_of_row wr b8 k8 _ _ _ (keepB HXL.out HBR.out)
                      rw [hz] at hcell
                      clear hz
                      have p0 : (0 : Int) ≤ (k8 : Int) := by omega
                      have p1 : (k8 : Int) < ((12 : Nat) : Int) := by omega
                      go_wp2_with (go_at_call 5; refine (HPL.out _ _ _ (by decide)).mono ?_; rintro e w' ⟨rfl, rfl⟩)
                      go_roundw
                      case rel => exact ⟨k8 + 1, by omega, by go_num, HBR.out⟩
                      case measure => simp [intOf]; omega
                    case neg =>
                      have HW5 := hide (HXB.out.trans (HBR.out.mono HXB.out.size))
                      clear HXB HXL HBR
                      generalize wr = w6 at *
                      go_wp2_with fail
                      go_loopw [16] (fun v16 wr => ∃ k9 : Nat, k9 ≤ 3 ∧ v16 = .int .i64 ((65535 + k9 : Nat) : Int) ∧ Below w.heap.size w wr) (fun v16 _ => 65538 - (intOf v16).toNat)
                      case atStart => exact ⟨0, by omega, rfl, HW5.out⟩
                      case round =>
                        obtain ⟨k9, hk9, rfl, hbr⟩ := hrel
                        have HBR := hide hbr
                        clear hbr HW5
                        by_cases hlt9 : k9 < 3
                        case pos =>
                          have HSP := hide (fun W => spaces_any (65534 + k9) (by omega) W)
                          have hm1 : ((65535 + k9 : Nat) : Int) - 1 = ((65534 + k9 : Nat) : Int) := by omega
                          have hm2 : ((65535 + k9 : Nat) : Int) < 65538 := by omega
                          generalize 65534 + k9 = m9 at *
                          generalize hm3 : 65535 + k9 = n9 at *
                          have HM3 := hide hm3
                          clear hm3
                          have hm0 : ((n9 : Int)) ≤ 65538 := by omega
                          have hm4 : 0 ≤ ((n9 : Int)) := by omega
                          go_wp2_with fail
                          refine (HSP.out _).mono ?_
                          rintro e w7 ⟨⟨s7, rfl, hs7⟩, hb7⟩
                          have HB7 := hide (HBR.out.trans (hb7.mono HBR.out.size))
                          clear hb7 HBR
                          go_wp2_with fail
                          refine (HL.out _ _ HB7.out).mono ?_
                          rintro e w' ⟨rfl, hb⟩
                          have HB8 := hide (HB7.out.trans (hb.mono HB7.out.size))
                          clear hb HB7
                          go_wp2_with fail
                          refine (HSP.out _).mono ?_
                          rintro e w9 ⟨⟨s9, rfl, hs9⟩, hb9⟩
                          have HB9 := hide (HB8.out.trans (hb9.mono HB8.out.size))
                          clear hb9 HB8
                          go_wp2_with fail
                          refine (HL.out _ _ HB9.out).mono ?_
                          rintro e w' ⟨rfl, hb⟩
                          have HB10 := hide (HB9.out.trans (hb.mono HB9.out.size))
                          clear hb HB9
                          go_wp2_with fail
                          go_roundw
                          case rel => exact ⟨k9 + 1, by omega, by rw [show 65535 + (k9 + 1) = n9 + 1 by have := HM3.out; omega]; go_num, HB10.out⟩
                          case measure => simp [intOf]; omega
                        case neg =>
                          obtain rfl : k9 = 3 := by omega
                          go_wp2_with fail
                          refine (HAW.out _ HBR.out).mono ?_
                          rintro e w' ⟨rfl, hb⟩
                          have HB := hide (HBR.out.trans (hb.mono HBR.out.size))
                          clear hb
                          go_wp2_with fail
                          go_ret
                          exact ⟨rfl, HB.out⟩
end Go.Proofs.YteghlkcgeadoaaaDoor
