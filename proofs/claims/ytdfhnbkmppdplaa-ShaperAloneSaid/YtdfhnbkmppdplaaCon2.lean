/-
  ShaperConforms: the walk.
-/
import Derived.Test.YtdfhnbkmppdplaaCon1
import Derived.Deep.DeepCutAuto
import Derived.Deep.RegionHeld3
namespace Go.Proofs.Ytdfhnbkmppdplaa
open Go.RowKit
def Apart2 (u v : Value) : Prop := ∀ k, u.ownBlock = some k → v.ownBlock ≠ some k
theorem Apart2.ne {u v : Value} (h : Apart2 u v) : v.ownBlock = none ∨ v.ownBlock ≠ u.ownBlock := by
  cases hv : v.ownBlock with
  | none => exact .inl rfl
  | some k => exact .inr fun e => h k e.symm hv
theorem Apart2.symm {u v : Value} (h : Apart2 u v) : Apart2 v u := fun k h1 h2 => h k h2 h1
theorem heapA (W : World) (o : Obj) : (W.alloc o).drew.heap[W.heap.size]? = some o := heap_alloc_new W o
theorem heapB (W : World) (o o' : Obj) : ((W.alloc o).alloc o').drew.heap[W.heap.size]? = some o := (Below.heap_alloc (W.alloc o) o' W.heap.size (by simp)).trans (heap_alloc_new W o)
theorem heapC (W : World) (o o' : Obj) : ((W.alloc o).alloc o').drew.heap[W.heap.size + 1]? = some o' := by
  have := heap_alloc_new (W.alloc o) o'
  rw [World.size_alloc] at this
  exact this
theorem held4 {B b0 o0 b1 o1 b2 o2 b3 o3 : Nat} {W0 w' : World} {c0 c1 c2 c3 : Value} (h0 : W0.cell? ⟨b0, o0, none⟩ = some c0) (h1 : W0.cell? ⟨b1, o1, none⟩ = some c1) (h2 : W0.cell? ⟨b2, o2, none⟩ = some c2) (h3 : W0.cell? ⟨b3, o3, none⟩ = some c3) (l0 : b0 < B) (l1 : b1 < B) (l2 : b2 < B) (l3 : b3 < B)
    (hB : Below B W0 w') : Below B W0 w' ∧ w'.cell? ⟨b0, o0, none⟩ = some c0 ∧ w'.cell? ⟨b1, o1, none⟩ = some c1 ∧ w'.cell? ⟨b2, o2, none⟩ = some c2 ∧ w'.cell? ⟨b3, o3, none⟩ = some c3 :=
  ⟨hB, (hB.cell (p := ⟨b0, o0, none⟩) l0).trans h0, (hB.cell (p := ⟨b1, o1, none⟩) l1).trans h1, (hB.cell (p := ⟨b2, o2, none⟩) l2).trans h2, (hB.cell (p := ⟨b3, o3, none⟩) l3).trans h3⟩
theorem fst_take {l : List Ev} {j : Nat} {x : Ev} (h : l[j]? = some x) : ints ((l.take (j + 1)).map Prod.fst) = ints ((l.take j).map Prod.fst) ++ [.int .i64 x.1] := by
  obtain ⟨hj, rfl⟩ := List.getElem?_eq_some_iff.1 h
  unfold ints
  rw [List.take_succ_eq_append_getElem hj, List.map_append, List.map_append]; rfl
theorem two_step {X wA : World} {B e size : Nat} {u v : Value} {nv n c g : Nat} {ys : List Value} (hv : X.ownsRow B e size v nv ys) (hap : Apart2 u v) (hg : X.grownBy wA u.ownBlock) (hat : u.ownBlock = some g ∨ g = X.heap.size) : wA.ownsRow B e size v nv ys ∧ Apart2 (.slice (some ⟨g, 0, none⟩) n c) v := by
  refine ⟨hv.kept hg hap.ne, fun k hk hvk => ?_⟩
  injection hk with hk
  subst hk
  rcases hat with h1 | h1
  · exact hap _ h1 hvk
  · have := (hv.lt _ hvk).2
    change g = X.heap.size at h1
    change g < X.heap.size at this
    omega
theorem news_blk {X : World} {b : Nat} {v : Value} {t : TypeId} (h : X.heap[b]? = some (.cells #[v] t (0, 0))) : ∀ j u, [v][j]? = some u → X.cell? ((⟨b, 0, none⟩ : Addr).add j) = some u := World.news_of_block (cs := #[v]) h
theorem blk_far {X w1 : World} {row : Option Nat} {b : Nat} {o : Obj} (h : X.heap[b]? = some o) (hg : X.grownBy w1 row) (hr : ∀ k, row = some k → k < b) : w1.heap[b]? = some o :=
  (hg.block b (blk_in h) (fun e => by have := hr b e.symm; omega)).trans h
set_option maxRecDepth 100000 in
set_option maxHeartbeats 4000000 in
theorem con_main (A A2 A3 : Option Addr) (n cap n2 cap2 n3 cap3 : Nat) (gs gaps links : List Int) (w : World) (hn : n ≤ 9223372036854775807) (hn2 : n2 ≤ 9223372036854775807) (hn3 : n3 ≤ 9223372036854775807) (h : Hid (Ints w A n gs (fun _ => False))) (g2 : Hid (Ints w A2 n2 gaps (fun _ => False))) (g3 : Hid (Ints w A3 n3 links (fun _ => False))) :
    Calls Try.prog 6 #[.slice A n cap, .slice A2 n2 cap2, .slice A3 n3 cap3] w fun e w' => e = .returned (.bool true) ∧ Below w.heap.size w w' := by
  obtain ⟨i0, hi0, hz0, hz1, hz2⟩ := info_parts intInfo
  obtain ⟨bs, hbs⟩ : ∃ bs, bagsL gs = bs := ⟨_, rfl⟩
  have HL := bagsL_len gs
  have HBS := hide hbs
  have HB : Hid (∀ b ∈ bs, 1 ≤ b ∧ b ≤ 200) := by rw [← hbs]; exact bagsTo_bd gs _
  rw [hbs] at HL
  obtain ⟨m, hm⟩ : ∃ m, bs.length = m := ⟨_, rfl⟩
  rw [hm] at HL
  obtain ⟨hm1, hm6⟩ := HL
  have HM := hide hm
  clear hm hbs
  go_enter Try.func6, Try.ntmps6
  go_wp2_with fail
  refine (awake_any w).mono ?_
  rintro e w1 ⟨rfl, hb1⟩
  have HB1 := hide hb1
  have HI1 := hide (h.out.below hb1)
  have HG2 := hide (g2.out.below hb1)
  have HG3 := hide (g3.out.below hb1)
  clear hb1
  go_wp2_with fail
  refine (bags_any A n cap gs _ w1 hn HI1).mono ?_
  rw [HBS.out, HM.out]
  rintro e w2 ⟨v, rfl, hown, hbl⟩
  obtain ⟨Ab, cb, hv, hcb, hib⟩ := ints_own (F := fun _ => False) hown HM.out (fun _ _ h => h)
  subst hv
  have HIB := hide hib
  have HB2 := hide (HB1.out.trans (hbl.mono HB1.out.size))
  have HG22 := hide (HG2.out.below hbl)
  have HG32 := hide (HG3.out.below hbl)
  clear hown hbl hib HI1 HG2 HG3
  go_wp2_with fail
  refine (run_any Ab A2 A3 m cb n2 cap2 n3 cap3 bs gaps links _ w2 hm1 (by omega) hn2 hn3 HM HB HIB HG22 HG32).mono ?_
  rintro e w3 ⟨ta, tl, O, L, Q1, Q2, rfl, hto, htl, hbl, hfin⟩
  have HIB3 := hide (HIB.out.below hbl)
  have HB3 := hide (HB2.out.trans (hbl.mono HB2.out.size))
  have HTO := hide hto
  have HTL := hide htl
  have HF := hide hfin
  clear hto htl hbl hfin HIB HG22 HG32
  go_wp2_with fail
  go_loopw [11] (fun v11 wr => ∃ i : Nat, i ≤ m ∧ v11 = .int .i64 i ∧ Below w3.heap.size w3 wr) (fun v11 _ => m - (intOf v11).toNat)
  case atStart => exact ⟨0, Nat.zero_le _, rfl, Below.refl _ _⟩
  case round =>
    obtain ⟨i, hi, rfl, hbr⟩ := hrel
    have HBR := hide hbr
    have hszr := hbr.size
    clear hbr
    have hin0 : (0 : Int) ≤ (i : Int) := by omega
    by_cases him : i < m
    · have him1 : (i : Int) < (m : Int) := by omega
      obtain ⟨bb, ob, hAb, -⟩ := HIB3.out.2 (by omega)
      subst hAb
      have cb3 := (HIB3.out.below HBR.out).cell rfl him
      have HROW := hide (HF.out.row HB.out (i := i) (by rw [HM.out]; exact him))
      obtain ⟨VO, hVO⟩ := HTO.out
      obtain ⟨VL, hVL⟩ := HTL.out
      obtain ⟨AO, cO, eO, evO⟩ := hVO.event him
      obtain ⟨AL, cL, eL, evL⟩ := hVL.event him
      have cTO := hVO.cell him
      have cTL := hVL.cell him
      rw [eO] at cTO
      rw [eL, HROW.out.len] at cTL
      have ltO := hVO.inn ta hVO.qt
      have ltL := hVL.inn tl hVL.qt
      have dTO := (HBR.out.cell (p := ⟨ta, i, none⟩) ltO).trans cTO
      have dTL := (HBR.out.cell (p := ⟨tl, i, none⟩) ltL).trans cTL
      have HCT := hide (And.intro cTO cTL)
      have HEO := hide evO
      have HEL := hide evL
      clear hVO hVL eO eL evO evL cTO cTL
      obtain ⟨B, hB⟩ : ∃ B, bs.getD i 0 = B := ⟨_, rfl⟩
      rw [hB] at cb3 HROW
      have HBE := hide hB
      clear hB
      obtain ⟨k, hk⟩ : ∃ k, (O i).length = k := ⟨_, rfl⟩
      rw [hk] at dTO dTL HCT
      have hk60 : k ≤ 60 := by rw [← hk]; exact HROW.out.few
      have HK := hide hk
      clear hk
      go_wp2_with fail
      go_quiet (fail)
      go_wp2_with fail
      have HBQ := hide (below_drewN HBR.out nq)
      clear cb3 dTO dTL HBR hszr
      generalize wr.drewN nq = wr2 at *
      go_loopw [12, 13, 14] (fun v12 v13 v14 wi => ∃ j : Nat, j ≤ k ∧ v14 = .int .i64 j ∧ wi.ownsRow w3.heap.size 3 1 v12 j (ints (((O i).take j).map Prod.fst)) ∧ wi.ownsRow w3.heap.size 3 1 v13 j (ints (((L i).take j).map Prod.fst)) ∧ Apart2 v12 v13 ∧ Below w3.heap.size w3 wi) (fun _ _ v14 _ => k - (intOf v14).toNat)
      case atStart => exact ⟨0, Nat.zero_le _, rfl, World.ownsRow_nil _ _ _ _, World.ownsRow_nil _ _ _ _, (by intro k h; simp [Value.ownBlock] at h), HBQ.out⟩
      case round =>
        clear HBQ
        obtain ⟨j, hj, rfl, hown12, hown13, hap, hbi⟩ := hrel
        have HO12 := hide hown12
        have HO13 := hide hown13
        have HAP := hide hap
        have HBI := hide hbi
        have hbz := hbi.size
        have dTO := (hbi.cell (p := ⟨ta, i, none⟩) ltO).trans HCT.out.1
        have dTL := (hbi.cell (p := ⟨tl, i, none⟩) ltL).trans HCT.out.2
        clear hown12 hown13 hap hbi
        have hj0 : (0 : Int) ≤ (j : Int) := by omega
        by_cases hjk : j < k
        · have hjk1 : (j : Int) < (k : Int) := by omega
          have hjO : j < (O i).length := by rw [HK.out]; exact hjk
          have hjL : j < (L i).length := by rw [HROW.out.len]; exact hjO
          obtain ⟨gO, hAO, o0, o1⟩ := HEO.out j _ (List.getElem?_eq_getElem hjO)
          obtain ⟨gL, hAL, l0, l1⟩ := HEL.out j _ (List.getElem?_eq_getElem hjL)
          have HTK := hide (fst_take (List.getElem?_eq_getElem hjO))
          have HTM := hide (fst_take (List.getElem?_eq_getElem hjL))
          obtain ⟨hid, htm⟩ := HROW.out.ev j _ _ (List.getElem?_eq_getElem hjO) (List.getElem?_eq_getElem hjL)
          subst hAO hAL
          obtain ⟨x, hx⟩ : ∃ x, (O i)[j] = x := ⟨_, rfl⟩
          obtain ⟨y, hy⟩ : ∃ y, (L i)[j] = y := ⟨_, rfl⟩
          rw [hx] at o0 o1 hid htm HTK
          rw [hy] at l0 l1 hid htm HTM
          clear hx hy
          obtain ⟨x1, x2⟩ := x
          obtain ⟨y1, y2⟩ := y
          simp only at o0 o1 l0 l1 hid htm HTK HTM
          subst hid
          rw [Nat.mul_comm] at o0 o1 l0 l1
          have gOl := cell_lt o0
          have gLl := cell_lt l0
          simp only at gOl gLl
          have p0 := (HBI.out.cell (p := ⟨gO, j * 2, none⟩) gOl).trans o0
          have p1 := (HBI.out.cell (p := ⟨gO, j * 2 + 1, none⟩) gOl).trans o1
          have q0 := (HBI.out.cell (p := ⟨gL, j * 2, none⟩) gLl).trans l0
          have q1 := (HBI.out.cell (p := ⟨gL, j * 2 + 1, none⟩) gLl).trans l1
          have htd : decide (y1 < x1) = false := decide_eq_false (by omega)
          clear o0 o1 l0 l1
          go_wp2_with fail
          go_quiet (fail)
          have HBW := hide (below_drewN HBI.out nq)
          have kA : (wr.drewN nq).ownsRow w3.heap.size 3 1 u12 j (ints (((O i).take j).map Prod.fst)) := HO12.out
          have kB : (wr.drewN nq).ownsRow w3.heap.size 3 1 u13 j (ints (((L i).take j).map Prod.fst)) := HO13.out
          have hle : w3.heap.size ≤ (wr.drewN nq).heap.size := hbz
          change (wr.drewN nq).cell? ⟨ta, i, none⟩ = _ at dTO
          change (wr.drewN nq).cell? ⟨tl, i, none⟩ = _ at dTL
          change (wr.drewN nq).cell? ⟨gO, j * 2, none⟩ = _ at p0
          change (wr.drewN nq).cell? ⟨gL, j * 2, none⟩ = _ at q0
          have lA := kA.lt
          have lB := kB.lt
          have hlA : ∀ k, u12.ownBlock = some k → k < (wr.drewN nq).heap.size := fun k h => (lA k h).2
          have hlB : ∀ k, u13.ownBlock = some k → k < (wr.drewN nq).heap.size := fun k h => (lB k h).2
          have LA := hide lA
          have LB := hide lB
          have HLA := hide hlA
          have HLB := hide hlB
          clear p1 q1 HO12 HO13 HBI hbz lA lB hlA hlB
          generalize wr.drewN nq = W at *
          have ap := HAP.out
          have tok1 : True := trivial
          have tok2 : True := trivial
          go_wp2_with fail
          go_region_held3 (fun w' => Below w3.heap.size W w' ∧ w'.cell? ⟨ta, i, none⟩ = some (.slice (some ⟨gO, 0, none⟩) k cO) ∧ w'.cell? ⟨gO, j * 2, none⟩ = some (.int .i64 x1) ∧ w'.cell? ⟨tl, i, none⟩ = some (.slice (some ⟨gL, 0, none⟩) k cL) ∧ w'.cell? ⟨gL, j * 2, none⟩ = some (.int .i64 y1))
            (first | assumption | exact held4 dTO p0 dTL q0 ltO gOl ltL gLl (by first | exact Below.refl _ _ | assumption | go_grown))
            (first
              | (have _t := tok1; go_split_ands; refine step_append_lies (o := ⟨some 103, _, _, _, _, _⟩) _ rfl (.tmp 93) (.tmp 102) 22 rfl w3.heap.size 3 i0 _ 1 8 Try.underlying22 hi0 hz0 hz1 hz2 rfl (by decide) u12 j (ints (((O i).take j).map Prod.fst)) rfl (by first | exact kA | exact World.ownsRow.alloc kA _ | exact World.ownsRow.alloc (World.ownsRow.alloc kA _) _) ⟨_, 0, none⟩ 1 1 [.int .i64 x1] rfl rfl (by first | exact news_blk bkA | exact news_blk (heapA _ _) | exact news_blk (heapB _ _ _) | exact news_blk (heapC _ _ _) | exact news_blk (heap_alloc_new _ _)) (by simp [Value.oneCell']) (by decide) (by unfold maxLen; omega) (by omega) (Nat.le_trans hle (Below.size (by assumption : Below w3.heap.size W _))) _ rfl ?_; intro g1 cap1 w5 hownA hgrow1 hat1 hlt1; have hB1 : Below w3.heap.size W w5 := Below.grown (by assumption) hgrow1 (Nat.le_trans hle (Below.size (by assumption : Below w3.heap.size W _))) (fun g hg => (LA.out g hg).1); have hs1 := Nat.le_trans hle hB1.size; obtain ⟨kB, ap⟩ := two_step (n := j + 1) (c := cap1) (by first | exact kB | exact World.ownsRow.alloc kB _ | exact World.ownsRow.alloc (World.ownsRow.alloc kB _) _) ap hgrow1 hat1; have kA := hownA; (first | (have _q := tok2; (first | have bkB := blk_far (heapC W _ (.cells #[.int .i64 y1] 3)) hgrow1 (fun k h => by have := HLA.out k h; omega) | have bkB := blk_far (heapB W (.cells #[.int .i64 y1] 3) _) hgrow1 (fun k h => by have := HLA.out k h; omega) | skip)) | skip); clear tok1)
              | (have _t := tok2; go_split_ands; refine step_append_lies (o := ⟨some 114, _, _, _, _, _⟩) _ rfl (.tmp 104) (.tmp 113) 22 rfl w3.heap.size 3 i0 _ 1 8 Try.underlying22 hi0 hz0 hz1 hz2 rfl (by decide) u13 j (ints (((L i).take j).map Prod.fst)) rfl (by first | exact kB | exact World.ownsRow.alloc kB _ | exact World.ownsRow.alloc (World.ownsRow.alloc kB _) _) ⟨_, 0, none⟩ 1 1 [.int .i64 y1] rfl rfl (by first | exact news_blk bkB | exact news_blk (heapA _ _) | exact news_blk (heapB _ _ _) | exact news_blk (heapC _ _ _) | exact news_blk (heap_alloc_new _ _)) (by simp [Value.oneCell']) (by decide) (by unfold maxLen; omega) (by omega) (Nat.le_trans hle (Below.size (by assumption : Below w3.heap.size W _))) _ rfl ?_; intro g2 cap2' w6 hownB hgrow2 hat2 hlt2; have hB2 : Below w3.heap.size W w6 := Below.grown (by assumption) hgrow2 (Nat.le_trans hle (Below.size (by assumption : Below w3.heap.size W _))) (fun g hg => (LB.out g hg).1); have hs2 := Nat.le_trans hle hB2.size; obtain ⟨kA, ap'⟩ := two_step (n := j + 1) (c := cap2') (by first | exact kA | exact World.ownsRow.alloc kA _ | exact World.ownsRow.alloc (World.ownsRow.alloc kA _) _) ap.symm hgrow2 hat2; have kB := hownB; have ap := ap'.symm; (first | (have _q := tok1; (first | have bkA := blk_far (heapC W _ (.cells #[.int .i64 x1] 3)) hgrow2 (fun k h => by have := HLB.out k h; omega) | have bkA := blk_far (heapB W (.cells #[.int .i64 x1] 3) _) hgrow2 (fun k h => by have := HLB.out k h; omega) | skip)) | skip); clear tok2))
          all_goals
            have HKA := hide kA
            have HKB := hide kB
            have HAP2 := hide ap
            have HBL := hide (HBW.out.trans (by first | exact hB2.mono (Nat.le_refl _) | exact hB1.mono (Nat.le_refl _)))
            clear kA kB ap hB1 hB2 hs1 hs2 hownA hownB hgrow1 hgrow2 hat1 hat2 hlt1 hlt2
            go_wp2_with fail
            go_roundw
            case rel => exact ⟨j + 1, by omega, by go_num, by rw [HTK.out]; exact HKA.out, by rw [HTM.out]; exact HKB.out, HAP2.out, HBL.out⟩
            case measure => simp [intOf]; omega
        · obtain rfl : k = j := by omega
          have hz1 : ((O i).take k).map Prod.fst = (O i).map Prod.fst := by rw [List.take_of_length_le (by rw [HK.out]; exact Nat.le_refl _)]
          have hz2 : ((L i).take k).map Prod.fst = (L i).map Prod.fst := by rw [List.take_of_length_le (by rw [HROW.out.len, HK.out]; exact Nat.le_refl _)]
          rw [hz1] at HO12
          rw [hz2, HROW.out.times] at HO13
          have hfine := HROW.out.fine
          rw [HROW.out.times] at hfine
          have hz3 : ((O i).map Prod.fst).length = k := by rw [List.length_map, HK.out]
          have HBG : Hid (bagB B = true) := by have := HROW.out.b1; have := HROW.out.b2; unfold bagB Hid; simp; omega
          have HOR := hide HROW.out.ord
          have HFI := hide hfine
          clear hz1 hz2 hfine dTO hjk HEO HEL HTO HTL
          generalize (O i).map Prod.fst = Z at *
          have HTL : Hid ((shapeL B Z).length = k) := (shapeL_length B Z).trans hz3
          obtain ⟨A12, c12, e12, hc12, hi12⟩ := ints_own (F := fun _ => False) HO12.out hz3 (fun _ _ h => h)
          obtain ⟨A13, c13, e13, hc13, hi13⟩ := ints_own (F := fun _ => False) HO13.out HTL.out (fun _ _ h => h)
          have HI12 := hide hi12
          have HI13 := hide hi13
          subst e12 e13
          have HIB4 := hide (HIB3.out.below HBI.out)
          have cb4 := HIB4.out.cell rfl him
          rw [HBE.out] at cb4
          clear hi12 hi13 HO12 HO13 hz3 HAP
          go_wp2_with fail
          refine (shape_fine B A12 k c12 Z _ wr (by omega) HI12 HBG HOR).mono ?_
          rintro e w4 ⟨v15, rfl, hown, hbl⟩
          obtain ⟨A15, c15, hv15, hc15, hi15⟩ := ints_own (F := fun _ => False) hown HTL.out (fun _ _ h => h)
          subst hv15
          have HI15 := hide hi15
          have HI134 := hide (HI13.out.below hbl)
          have HIB5 := hide (HIB4.out.below hbl)
          have HB5 := hide (HBI.out.trans (hbl.mono hbz))
          clear hi15 hown hbl HI12 HI13 cb4 HBI
          generalize hT : shapeL B Z = T at *
          clear hT
          go_wp2_with fail
          refine (sameInts_any A13 A15 k k c13 c15 T T _ _ w4 (by omega) (by omega) HI134 HI15).mono ?_
          rw [show (T == T) = true from by simp]
          rintro e w5 ⟨rfl, d5, rfl⟩
          have cb5 := (HIB5.out.drewN d5).cell rfl him
          rw [HBE.out] at cb5
          have HI135 := hide (HI134.out.drewN d5)
          have HB6 := hide (below_drewN HB5.out d5)
          clear HI134 HI15 HIB5 HB5
          generalize w4.drewN d5 = w6 at *
          go_wp2_with fail
          refine (conforms_any B A13 k c13 T _ w6 (by omega) HI135).mono ?_
          rw [HFI.out]
          rintro e w7 ⟨rfl, hbl⟩
          have HB7 := hide (HB6.out.trans (hbl.mono HB6.out.size))
          clear hbl
          go_wp2_with fail
          go_roundw
          case rel => exact ⟨i + 1, by omega, by go_num, HB7.out⟩
          case measure => simp [intOf]; omega
    · have him2 : (m : Int) ≤ (i : Int) := by omega
      go_wp2_with fail
      go_ret
      exact ⟨rfl, HB3.out.trans (HBR.out.mono HB3.out.size)⟩
end Go.Proofs.Ytdfhnbkmppdplaa
