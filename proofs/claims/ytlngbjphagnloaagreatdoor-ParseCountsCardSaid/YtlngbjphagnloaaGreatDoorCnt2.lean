/-
  parse: ParseCounts returns true.
-/
import Derived.Test.YtlngbjphagnloaaGreatDoorLexC
import Derived.Test.YtlngbjphagnloaaGreatDoorCnt1
import Derived.Test.YtlngbjphagnloaaGreatDoorFit
namespace Go.Proofs.YtlngbjphagnloaaGreatDoor
open Go.RowKit
attribute [local go_sem] Later.cell
theorem counts_bound {l : List UInt8} {ts : List Tok} {p er size at_ : Nat} {c : CfgD} (hl : lexR l = (ts, p, er)) (h : parseT (lexR l) size = (c, at_, 0)) : ts.foldl cstep (0, 0) = (0, c.count) ∧ c.fine ∧ c.count ≤ ts.length ∧ c.fit 65536 0 := by
  have h1 := counts_plain h
  have h2 := (count_small ts (0, 0)).2.2
  rw [hl] at h1
  rw [h1.1] at h2
  exact ⟨h1.1, h1.2, by simpa using h2, cfg_fit (lex_ok l).count.1 (parsed_ok h).2.1⟩
theorem cs_open (d : Int) (m k a : Nat) : cstep (d, m) ⟨k, [123], a⟩ = (d + 1, m) := by simp [cstep]
theorem cs_close (d : Int) (m k a : Nat) : cstep (d, m) ⟨k, [125], a⟩ = (d - 1, if d - 1 = 0 then m + 1 else m) := by simp [cstep]
theorem cs_semi (d : Int) (m k a : Nat) : cstep (d, m) ⟨k, [59], a⟩ = (d, if d = 0 then m + 1 else m) := by simp [cstep]
theorem cs_else (d : Int) (m k a : Nat) (tx : List UInt8) (h1 : tx ≠ [123]) (h2 : tx ≠ [125]) (h3 : tx ≠ [59]) : cstep (d, m) ⟨k, tx, a⟩ = (d, m) := cstep_other h1 h2 h3 d m
theorem tx_ne {tx : List UInt8} {b : UInt8} (h : tx ≠ [b]) : (tx == [b]) = false := by simpa using h
theorem DRow.later {w w' : World} {A : Option Addr} {size : Nat} {es : List (List Dat)} (h : DRow w A size es) (hb : Below w.heap.size w w') : DRow w' A size es := by
  rcases h with h | ⟨b, off, e, hl, hc⟩
  · exact .inl h
  · refine .inr ⟨b, off, e, Nat.lt_of_lt_of_le hl hb.size, fun i j x d hx hd => ?_⟩
    obtain ⟨u, h1, h2⟩ := hc i j x d hx hd
    exact ⟨u, (hb.cell (p := ⟨b, off + i * size + j, none⟩) hl).trans h1, h2.later hb⟩
/-- The rows of modules, partitions and ports. -/
theorem cfg_mods {w : World} {A : Nat → Option Addr} {q : Nat → Nat} {c : CfgD} {G : Nat → Prop} (h : DCells w G (cfgVal A q c) c.cells) : DRow w (A 0) 4 (c.modules.map ModD.cells) := by
  obtain ⟨A', c', hv, hr⟩ := ((h.2 0 _ _ rfl rfl).mono (H := fun _ => True) (fun _ _ _ => trivial)).slice
  injection hv with hv _ _
  rw [hv]
  exact hr
set_option maxRecDepth 100000 in
set_option maxHeartbeats 4000000 in
theorem counts_short (src : ByteArray) (c : CfgD) (at_ : Nat) (ts : List Tok) (p er : Nat) (hl : lexR src.data.toList = (ts, p, er)) (hp : parseT (lexR src.data.toList) src.size = (c, at_, 0)) (hs : src.size ≤ 5000) (W : World) (hE : Hid (Env W)) (hP : Hid (EnvP W)) : Calls Tryz.prog 4 #[.string src] W fun e w' => e = .returned (.bool true) ∧ Below W.heap.size W w' := by
  obtain ⟨hk1, hk2, hcn, hft⟩ := counts_bound hl hp
  have HFit := hide hft
  have hn := lex_len src hl
  have HFold := hide hk1
  have HFine := hide hk2
  have HPC := hide (fun V hE hP => parse_call src c at_ 0 hp V hE hP)
  have HLX := hide (fun V hE => lex_call src ts p er hl V hE)
  clear hk1 hk2 hp hl hft
  have hs1 : (src.size : Int) ≤ 5000 := by omega
  go_enter Tryz.func4, Tryz.ntmps4
  go_wp2_with fail
  refine (awake_any W hE hP).mono ?_
  rintro e w1 ⟨rfl, hb1⟩
  have HE1 := hide (hE.out.kept hb1)
  have HP1 := hide (hP.out.below hb1)
  have HB1 := hide hb1
  clear hb1
  go_wp2_with fail
  refine (HPC.out w1 HE1 HP1).mono ?_
  rintro e w2 ⟨A, q, rfl, hb2, hD2⟩
  have HB2 := hide (HB1.out.trans (hb2.mono HB1.out.size))
  have HE2 := hide (HE1.out.kept hb2)
  have HD2 := hide hD2
  clear hb2 hD2 HE1 HP1 HB1 HPC
  rw [show (cfgVal A q c).toArray = #[.slice (A 0) c.modules.length (q 0), .slice (A 1) c.channels.length (q 1), .slice (A 2) c.switches.length (q 2), .slice (A 3) c.links.length (q 3), .slice (A 4) c.vls.length (q 4), .slice (A 5) c.health.length (q 5), .slice (A 6) c.causes.length (q 6), .slice (A 7) c.versions.length (q 7)] from rfl]
  have HM2 := hide (cfg_mods HD2.out)
  clear HD2
  have hcc : c.count = c.modules.length + c.channels.length + c.switches.length + c.links.length + c.vls.length + c.health.length + c.causes.length + c.versions.length := rfl
  generalize c.channels.length = n1 at *
  generalize c.switches.length = n2 at *
  generalize c.links.length = n3 at *
  generalize c.vls.length = n4 at *
  generalize c.health.length = n5 at *
  generalize c.causes.length = n6 at *
  generalize c.versions.length = n7 at *
  generalize A 0 = A0 at *
  generalize A 1 = A1 at *
  generalize A 2 = A2 at *
  generalize A 3 = A3 at *
  generalize A 4 = A4 at *
  generalize A 5 = A5 at *
  generalize A 6 = A6 at *
  generalize A 7 = A7 at *
  generalize hn0 : c.modules.length = n0 at *
  have HN0 := hide hn0
  clear hn0
  go_wp2_with fail
  have hY := heap_alloc_new w2 (.cells #[.slice A0 n0 (q 0), .slice A1 n1 (q 1), .slice A2 n2 (q 2), .slice A3 n3 (q 3), .slice A4 n4 (q 4), .slice A5 n5 (q 5), .slice A6 n6 (q 6), .slice A7 n7 (q 7)] 32)
  have hbY := (Below.refl w2.heap.size w2).alloc (Nat.le_refl _) (.cells #[.slice A0 n0 (q 0), .slice A1 n1 (q 1), .slice A2 n2 (q 2), .slice A3 n3 (q 3), .slice A4 n4 (q 4), .slice A5 n5 (q 5), .slice A6 n6 (q 6), .slice A7 n7 (q 7)] 32)
  have hzY := World.size_alloc w2 (.cells #[.slice A0 n0 (q 0), .slice A1 n1 (q 1), .slice A2 n2 (q 2), .slice A3 n3 (q 3), .slice A4 n4 (q 4), .slice A5 n5 (q 5), .slice A6 n6 (q 6), .slice A7 n7 (q 7)] 32)
  generalize w2.alloc (.cells #[.slice A0 n0 (q 0), .slice A1 n1 (q 1), .slice A2 n2 (q 2), .slice A3 n3 (q 3), .slice A4 n4 (q 4), .slice A5 n5 (q 5), .slice A6 n6 (q 6), .slice A7 n7 (q 7)] 32) = w3 at *
  refine (HLX.out w3 (hide (HE2.out.kept hbY))).mono ?_
  rintro e w4 ⟨TA, tc, rfl, hT, hb4⟩
  have hb24 := hbY.trans (hb4.mono hbY.size)
  have HB4 := hide (HB2.out.trans (hb24.mono HB2.out.size))
  obtain ⟨c0, c1, c2, c3, c4, c5, c6, c7, _⟩ := row8 ((hb4.block w2.heap.size (by omega)).trans hY) rfl
  have hcb : w2.heap.size < w4.heap.size := by have := hb4.size; omega
  have HT := hide hT
  have HM := hide (HM2.out.later hb24)
  generalize w2.heap.size = cb at *
  clear hT hb4 hbY hzY hY hb24 HE2 HB2 HM2 HLX
  go_wp2_with fail
  go_loopw [9, 10, 11] (fun v9 v10 v11 wr => ∃ k : Nat, k ≤ ts.length ∧ v11 = .int .i64 k ∧ v9 = .int .i64 ((ts.take k).foldl cstep (0, 0)).1 ∧ v10 = .int .i64 (((ts.take k).foldl cstep (0, 0)).2 : Nat) ∧ Below w4.heap.size w4 wr) (fun _ _ v11 _ => ts.length - (intOf v11).toNat)
  case atStart => exact ⟨0, by omega, rfl, rfl, rfl, Below.refl _ _⟩
  case round =>
    obtain ⟨k, hk, rfl, rfl, rfl, hbr⟩ := hrel
    have HBR := hide hbr
    clear hbr
    by_cases hlt : k < ts.length
    case pos =>
      obtain ⟨b, off, t, rfl, hbb, ht, q0, q1, q2⟩ := tok_at HT HBR.out hlt
      have HST := hide (count_step ht.out)
      have hsm := count_small (ts.take k) (0, 0)
      rw [List.length_take] at hsm
      obtain ⟨⟨d, m⟩, hdm⟩ : ∃ s, (ts.take k).foldl cstep (0, 0) = s := ⟨_, rfl⟩
      rw [hdm] at HST hsm ⊢
      clear hdm
      obtain ⟨kd, tx, ta⟩ := t
      dsimp only at q0 q1 q2 hsm ⊢
      have k0 : (0 : Int) ≤ (k : Int) := by omega
      have k1 : (k : Int) < (ts.length : Int) := by omega
      have d1 : -5000 ≤ d ∧ d ≤ 5000 ∧ m ≤ 5000 := by omega
      clear hsm ht
      by_cases h1 : tx = [123]
      · subst h1
        by_cases hz : d + 1 = 0
        · have z1 : (d + 1 == 0) = true := by simpa using hz
          have HS2 := hide (HST.out.trans (cs_open d m kd ta))
          clear HST
          go_wp2_with fail
          go_roundw
          case rel => exact ⟨k + 1, by omega, by go_num, by rw [HS2.out] <;> exact congrArg (Value.int .i64) (by dsimp only; omega), by rw [HS2.out] <;> go_num, HBR.out⟩
          case measure => simp [intOf]; omega
        · have z1 : (d + 1 == 0) = false := by simpa using hz
          have HS2 := hide (HST.out.trans (cs_open d m kd ta))
          clear HST
          go_wp2_with fail
          go_roundw
          case rel => exact ⟨k + 1, by omega, by go_num, by rw [HS2.out] <;> exact congrArg (Value.int .i64) (by dsimp only; omega), by rw [HS2.out] <;> go_num, HBR.out⟩
          case measure => simp [intOf]; omega
      have x1 := tx_ne h1
      by_cases h2 : tx = [125]
      · subst h2
        by_cases hz : d - 1 = 0
        · have z1 : (d - 1 == 0) = true := by simpa using hz
          have HS2 := hide (HST.out.trans ((cs_close d m kd ta).trans (by rw [if_pos hz])))
          clear HST
          go_wp2_with fail
          go_roundw
          case rel => exact ⟨k + 1, by omega, by go_num, by rw [HS2.out] <;> exact congrArg (Value.int .i64) (by dsimp only; omega), by rw [HS2.out] <;> go_num, HBR.out⟩
          case measure => simp [intOf]; omega
        · have z1 : (d - 1 == 0) = false := by simpa using hz
          have HS2 := hide (HST.out.trans ((cs_close d m kd ta).trans (by rw [if_neg hz])))
          clear HST
          go_wp2_with fail
          go_roundw
          case rel => exact ⟨k + 1, by omega, by go_num, by rw [HS2.out] <;> exact congrArg (Value.int .i64) (by dsimp only; omega), by rw [HS2.out] <;> go_num, HBR.out⟩
          case measure => simp [intOf]; omega
      have x2 := tx_ne h2
      by_cases h3 : tx = [59]
      · subst h3
        by_cases hz : d = 0
        · subst hz
          have HS2 := hide (HST.out.trans (cs_semi 0 m kd ta))
          clear HST
          go_wp2_with fail
          go_roundw
          case rel => exact ⟨k + 1, by omega, by go_num, by rw [HS2.out] <;> exact congrArg (Value.int .i64) (by dsimp only; omega), by rw [HS2.out] <;> go_num, HBR.out⟩
          case measure => simp [intOf]; omega
        · have z1 : (d == 0) = false := by simpa using hz
          have HS2 := hide (HST.out.trans ((cs_semi d m kd ta).trans (by rw [if_neg hz])))
          clear HST
          go_wp2_with fail
          go_roundw
          case rel => exact ⟨k + 1, by omega, by go_num, by rw [HS2.out] <;> exact congrArg (Value.int .i64) (by dsimp only; omega), by rw [HS2.out] <;> go_num, HBR.out⟩
          case measure => simp [intOf]; omega
      have x3 := tx_ne h3
      by_cases hz : d = 0
      · subst hz
        have HS2 := hide (HST.out.trans (cs_else 0 m kd ta tx h1 h2 h3))
        clear HST
        go_wp2_with fail
        go_roundw
        case rel => exact ⟨k + 1, by omega, by go_num, by rw [HS2.out] <;> exact congrArg (Value.int .i64) (by dsimp only; omega), by rw [HS2.out] <;> go_num, HBR.out⟩
        case measure => simp [intOf]; omega
      · have z1 : (d == 0) = false := by simpa using hz
        have HS2 := hide (HST.out.trans (cs_else d m kd ta tx h1 h2 h3))
        clear HST
        go_wp2_with fail
        go_roundw
        case rel => exact ⟨k + 1, by omega, by go_num, by rw [HS2.out] <;> exact congrArg (Value.int .i64) (by dsimp only; omega), by rw [HS2.out] <;> go_num, HBR.out⟩
        case measure => simp [intOf]; omega
    case neg =>
      obtain rfl : k = ts.length := by omega
      rw [List.take_length, HFold.out]
      dsimp only
      obtain ⟨V, rfl⟩ : ∃ V, V = wr := ⟨_, rfl⟩
      clear HFold HT
      go_wp2_with fail
      go_loopw [12] (fun v12 wr => ∃ i : Nat, i ≤ n0 ∧ v12 = .int .i64 i ∧ Below w4.heap.size w4 wr) (fun v12 _ => n0 - (intOf v12).toNat)
      case atStart => exact ⟨0, by omega, rfl, HBR.out⟩
      case round =>
        obtain ⟨i, hi, rfl, hbr⟩ := hrel
        have HR2 := hide hbr
        clear HBR
        have e0 := (hbr.cell (p := ⟨cb, 0, none⟩) hcb).trans c0
        have hcb2 : cb < wr.heap.size := Nat.lt_of_lt_of_le hcb hbr.size
        by_cases hlt2 : i < n0
        case neg =>
          have e1 := (hbr.cell (p := ⟨cb, 1, none⟩) hcb).trans c1
          have e2 := (hbr.cell (p := ⟨cb, 2, none⟩) hcb).trans c2
          have e3 := (hbr.cell (p := ⟨cb, 3, none⟩) hcb).trans c3
          have e4 := (hbr.cell (p := ⟨cb, 4, none⟩) hcb).trans c4
          have e5 := (hbr.cell (p := ⟨cb, 5, none⟩) hcb).trans c5
          have e6 := (hbr.cell (p := ⟨cb, 6, none⟩) hcb).trans c6
          have e7 := (hbr.cell (p := ⟨cb, 7, none⟩) hcb).trans c7
          have hq : ((c.count : Int) == (n0 : Int) + (n1 : Int) + (n2 : Int) + (n3 : Int) + (n4 : Int) + (n5 : Int) + (n6 : Int) + (n7 : Int)) = true := by simp; omega
          have hb8 : n0 + n1 + n2 + n3 + n4 + n5 + n6 + n7 ≤ 5000 := by omega
          clear hbr c0 c1 c2 c3 c4 c5 c6 c7 hcc
          go_wp2_with fail
          go_ret
          exact ⟨rfl, HB4.out.trans (HR2.out.mono HB4.out.size)⟩
        case pos =>
          clear c1 c2 c3 c4 c5 c6 c7
          obtain ⟨m, hm⟩ : ∃ m, c.modules[i]? = some m := ⟨_, List.getElem?_eq_getElem (by have := HN0.out; omega)⟩
          have HFm := hide (HFine.out m (List.mem_of_getElem? hm))
          obtain ⟨hnp1, hfp⟩ := HFit.out.modules m (List.mem_of_getElem? hm)
          have HFT := hide hfp
          clear hfp
          obtain ⟨b1, o1, rfl, hb1, hc1⟩ := HM.out.at_ hm
          obtain ⟨u, g3, D3⟩ := hc1 3 _ rfl
          obtain ⟨P, pc, rfl, hPR⟩ := D3.slice
          rw [List.length_map] at g3
          have HPR := hide hPR
          have m3 := (hbr.cell (p := ⟨b1, o1 + i * 4 + 3, none⟩) hb1).trans g3
          have hb1' : b1 < wr.heap.size := Nat.lt_of_lt_of_le hb1 hbr.size
          have i0 : (0 : Int) ≤ (i : Int) := by omega
          have i1 : (i : Int) < (n0 : Int) := by omega
          generalize hnp : m.parts.length = np at *
          have HNP := hide hnp
          clear hnp hm hc1 D3 hPR hbr
          obtain ⟨V2, rfl⟩ : ∃ V, V = wr := ⟨_, rfl⟩
          go_wp2_with fail
          go_loopw [13] (fun v13 wr => ∃ j : Nat, j ≤ np ∧ v13 = .int .i64 j ∧ Below w4.heap.size w4 wr) (fun v13 _ => np - (intOf v13).toNat)
          case atStart => exact ⟨0, by omega, rfl, HR2.out⟩
          case round =>
            obtain ⟨j, hj, rfl, hbr⟩ := hrel
            have HR3 := hide hbr
            clear e0 m3 HR2 hcb2 hb1'
            have e0 := (hbr.cell (p := ⟨cb, 0, none⟩) hcb).trans c0
            have hcb2 : cb < wr.heap.size := Nat.lt_of_lt_of_le hcb hbr.size
            have m3 := (hbr.cell (p := ⟨b1, o1 + i * 4 + 3, none⟩) hb1).trans g3
            have hb1' : b1 < wr.heap.size := Nat.lt_of_lt_of_le hb1 hbr.size
            by_cases hlt3 : j < np
            case neg =>
              clear hbr c0 g3
              go_wp2_with fail
              go_roundw
              case rel => exact ⟨i + 1, by omega, by go_num, HR3.out⟩
              case measure => simp [intOf]; omega
            case pos =>
              obtain ⟨p, hp⟩ : ∃ p, m.parts[j]? = some p := ⟨_, List.getElem?_eq_getElem (by have := HNP.out; omega)⟩
              have HFp := hide (HFm.out p (List.mem_of_getElem? hp))
              have hnq1 := (HFT.out p (List.mem_of_getElem? hp)).2.2.1
              obtain ⟨b2, o2, rfl, hb2, hc2⟩ := HPR.out.at_ hp
              have p0 := lc hbr hb2 (hc2 0 _ rfl)
              have p1 := lc hbr hb2 (hc2 1 _ rfl)
              have p2 := lc hbr hb2 (hc2 2 _ rfl)
              have p3 := lc hbr hb2 (hc2 3 _ rfl)
              have p5 := lc hbr hb2 (hc2 5 _ rfl)
              have p6 := lc hbr hb2 (hc2 6 _ rfl)
              obtain ⟨u4, p4, D4⟩ := hc2 4 _ rfl
              obtain ⟨S4, q4, rfl, -⟩ := D4.slice
              obtain ⟨u7, p7, D7⟩ := hc2 7 _ rfl
              obtain ⟨S7, q7, rfl, -⟩ := D7.slice
              obtain ⟨u8, p8, D8⟩ := hc2 8 _ rfl
              obtain ⟨S8, q8, rfl, h8⟩ := D8.slice
              obtain ⟨u9, p9, D9⟩ := hc2 9 _ rfl
              obtain ⟨S9, q9, rfl, -⟩ := D9.slice
              have H8 := hide h8
              have p4 := (hbr.cell (p := ⟨b2, o2 + j * 10 + 4, none⟩) hb2).trans p4
              have p7 := (hbr.cell (p := ⟨b2, o2 + j * 10 + 7, none⟩) hb2).trans p7
              have p8 := (hbr.cell (p := ⟨b2, o2 + j * 10 + 8, none⟩) hb2).trans p8
              have p9 := (hbr.cell (p := ⟨b2, o2 + j * 10 + 9, none⟩) hb2).trans p9
              simp only [Nat.add_zero, strV] at p0 p1 p2 p3 p5 p6
              have hb2' : b2 < wr.heap.size := Nat.lt_of_lt_of_le hb2 hbr.size
              have j0 : (0 : Int) ≤ (j : Int) := by omega
              have j1 : (j : Int) < (np : Int) := by omega
              rw [List.length_map] at p8
              generalize hnq : p.ports.length = nq at *
              have HNQ := hide hnq
              clear hnq hp hc2 D4 D7 D8 D9 h8 hbr c0 g3
              obtain ⟨V3, rfl⟩ : ∃ V, V = wr := ⟨_, rfl⟩
              have hV4 := HR3.out.alloc HR3.out.size (.cells #[.string ⟨p.name.toArray⟩, .int .i64 p.period, .int .i64 p.length, .int .i64 p.mem, .slice S4 (intRows p.semas).length q4, .int .i64 p.events, .int .i64 p.boards, .slice S7 (intRows p.bufs).length q7, .slice S8 nq q8, .slice S9 p.procs.length q9] 51)
              have hy4 := heap_alloc_new V3 (.cells #[.string ⟨p.name.toArray⟩, .int .i64 p.period, .int .i64 p.length, .int .i64 p.mem, .slice S4 (intRows p.semas).length q4, .int .i64 p.events, .int .i64 p.boards, .slice S7 (intRows p.bufs).length q7, .slice S8 nq q8, .slice S9 p.procs.length q9] 51)
              have HY4 := hide hy4
              have HV4 := hide hV4
              clear hy4 hV4
              go_wp2_with fail
              generalize V3.alloc (.cells #[.string ⟨p.name.toArray⟩, .int .i64 p.period, .int .i64 p.length, .int .i64 p.mem, .slice S4 (intRows p.semas).length q4, .int .i64 p.events, .int .i64 p.boards, .slice S7 (intRows p.bufs).length q7, .slice S8 nq q8, .slice S9 p.procs.length q9] 51) = V4 at *
              go_loopw [15] (fun v15 wr => ∃ l : Nat, l ≤ nq ∧ v15 = .int .i64 l ∧ Below V4.heap.size V4 wr) (fun v15 _ => nq - (intOf v15).toNat)
              case atStart => exact ⟨0, by omega, rfl, Below.refl _ _⟩
              case round =>
                obtain ⟨l, hl, rfl, hbr4⟩ := hrel
                have HR4 := hide hbr4
                have hs8 := Nat.lt_of_lt_of_le (Array.getElem?_eq_some_iff.1 HY4.out).1 hbr4.size
                have p8' := (hbr4.cell (p := ⟨V3.heap.size, 8, none⟩) (Array.getElem?_eq_some_iff.1 HY4.out).1).trans (cell_of_row V4 V3.heap.size 8 _ _ _ HY4.out)
                simp at p8'
                by_cases hlt4 : l < nq
                case neg =>
                  clear hbr4
                  go_wp2_with fail
                  go_roundw
                  case rel => exact ⟨j + 1, by omega, by go_num, HV4.out.trans (HR4.out.mono HV4.out.size)⟩
                  case measure => simp [intOf]; omega
                case pos =>
                  obtain ⟨x, hx⟩ : ∃ x, p.ports[l]? = some x := ⟨_, List.getElem?_eq_getElem (by have := HNQ.out; omega)⟩
                  obtain ⟨f1, f2, f3⟩ := HFp.out x (List.mem_of_getElem? hx)
                  obtain ⟨b3, o3, rfl, hb3, hc3⟩ := H8.out.at_ hx
                  have hb4 := HV4.out.trans (hbr4.mono HV4.out.size)
                  have t0 := lc hb4 hb3 (hc3 0 _ rfl)
                  have t1 := lc hb4 hb3 (hc3 1 _ rfl)
                  have t2 := lc hb4 hb3 (hc3 2 _ rfl)
                  have t3 := lc hb4 hb3 (hc3 3 _ rfl)
                  have t4 := lc hb4 hb3 (hc3 4 _ rfl)
                  have t5 := lc hb4 hb3 (hc3 5 _ rfl)
                  simp only [Nat.add_zero, strV] at t0 t1 t2 t3 t4 t5
                  have hb3' : b3 < wr.heap.size := Nat.lt_of_lt_of_le hb3 hb4.size
                  have l0 : (0 : Int) ≤ (l : Int) := by omega
                  have l1 : (l : Int) < (nq : Int) := by omega
                  clear hc3 hx hb4 hbr4
                  obtain ⟨xn, xk, xo, xs, xd, xr⟩ := x
                  dsimp only at f1 f2 f3 t0 t1 t2 t3 t4 t5
                  rcases f1 with rfl | rfl
                  · obtain rfl := f2 rfl
                    clear f2 f3
                    go_wp2_with fail
                    go_roundw
                    case rel => exact ⟨l + 1, by omega, by go_num, HR4.out.alloc HR4.out.size _⟩
                    case measure => simp [intOf]; omega
                  · obtain rfl := f3 rfl
                    clear f2 f3
                    go_wp2_with fail
                    go_roundw
                    case rel => exact ⟨l + 1, by omega, by go_num, HR4.out.alloc HR4.out.size _⟩
                    case measure => simp [intOf]; omega
end Go.Proofs.YtlngbjphagnloaaGreatDoor
