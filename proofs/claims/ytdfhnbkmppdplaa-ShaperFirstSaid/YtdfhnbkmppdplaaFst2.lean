/-
  ShaperFirst: the walk (under way).
-/
import Derived.Test.YtdfhnbkmppdplaaFst3
import Derived.Test.YtdfhnbkmppdplaaWr1
import Derived.Deep.DeepCutAuto
namespace Go.Proofs.Ytdfhnbkmppdplaa
open Go.RowKit
def zsN (n : Nat) : List Int := List.replicate n 0
theorem madeN (n : Nat) : madeCells (Value.cells (.int .i64 0)) (n * 1) = (ints (zsN n)).toArray := by
  unfold madeCells zsN ints Value.cells
  refine Array.ext (by simp) fun i h1 h2 => ?_
  simp [Nat.mod_one]
theorem makeN (n : Nat) (h : n ≤ 1000000) (W : World) : (Instr.makeSlice 22 (.int .i64 n) (.int .i64 n)).run Try.prog W = .ok (.slice (some ⟨W.heap.size, 0, none⟩) n n) (W.alloc (.cells (ints (zsN n)).toArray 3)) := by
  obtain ⟨i0, hi, hz0, hz1, hz2⟩ := info_parts intInfo
  have := run_make (P := Try.prog) W 22 3 i0 (.int .i64 0) Try.underlying22 hi hz0 .i64 .i64 n n (by omega) (by omega) (by rw [hz2]; omega) (by omega)
  rw [hz1, Int.toNat_natCast, madeN] at this
  exact this
theorem r0_new (bs : List Int) : R0 bs (zsN bs.length) bs.length (AS.new bs) :=
  ⟨AS.new_len bs, List.length_replicate, fun i hi => by rw [AS.new_at bs i hi, if_pos hi]⟩
/-- What the two rounds keep: the shaper, the releases in block g, the time. -/
structure Fst (w2 : World) (a g : Nat) (bs R : List Int) (T : Int) (S : AS) (P : Nat → Prop) (wr : World) : Prop where
  own : OwnSh w2.heap.size w2 wr a S P
  blk : wr.heap[g]? = some (.cells (ints R).toArray 3 (0, 0))
  free : ¬ P g
  now : S.now ≤ T
  t0 : 0 ≤ T
  bd : ∀ i, i < bs.length → 0 ≤ R.getD i 0 ∧ R.getD i 0 ≤ 2000
theorem ints_set (R : List Int) (u : Nat) (x : Int) : (ints R).toArray.setIfInBounds u (.int .i64 x) = (ints (R.set u x)).toArray := by
  unfold ints; simp [List.map_set]
theorem Fst.store {w2 w6 : World} {a g u : Nat} {bs R : List Int} {T' x : Int} {S : AS} {P : Nat → Prop} (hO : OwnSh w2.heap.size w2 w6 a S P) (hB : w6.heap[g]? = some (.cells (ints R).toArray 3 (0, 0))) (hf : ¬ P g) (hn : S.now ≤ T') (h0 : 0 ≤ T')
    (hu : u < R.length) (hb : ∀ i, i < bs.length → 0 ≤ R.getD i 0 ∧ R.getD i 0 ≤ 2000) (hx0 : 0 ≤ x) (hx1 : x ≤ 2000) (o : Obj) (hg2 : w2.heap.size ≤ g) : Fst w2 a g bs (R.set u x) T' S P ((w6.setCell ⟨g, u, none⟩ (.int .i64 x)).alloc o) := by
  have hk : Kept (· = g) w6 ((w6.setCell ⟨g, u, none⟩ (.int .i64 x)).alloc o) := ((Kept.refl (· = g) w6).setCell (p := ⟨g, u, none⟩) (.inl rfl) _).alloc o
  refine ⟨⟨hO.at_.frame hk (fun k hp e => by subst e; exact hf hp), hO.own, ((hO.bel.setCell hg2 _).alloc (by simpa [World.setCell] using hO.bel.size) o)⟩, ?_, hf, hn, h0, fun i hi => ?_⟩
  · rw [Below.heap_alloc _ _ _ (by simpa [World.setCell] using blk_in hB)]
    simp only [World.setCell, Array.getElem?_modify]
    rw [if_pos trivial, hB]
    show some (Obj.cells ((ints R).toArray.setIfInBounds u (.int .i64 x)) _ _) = _
    rw [ints_set]
  · rw [set_getD R u i x hu]
    split
    · exact ⟨hx0, hx1⟩
    · exact hb i hi
theorem Fst.store0 {w2 w6 : World} {a g u : Nat} {bs R : List Int} {T' x : Int} {S : AS} {P : Nat → Prop} (hO : OwnSh w2.heap.size w2 w6 a S P) (hB : w6.heap[g]? = some (.cells (ints R).toArray 3 (0, 0))) (hf : ¬ P g) (hn : S.now ≤ T') (h0 : 0 ≤ T')
    (hu : u < R.length) (hb : ∀ i, i < bs.length → 0 ≤ R.getD i 0 ∧ R.getD i 0 ≤ 2000) (hx0 : 0 ≤ x) (hx1 : x ≤ 2000) (hg2 : w2.heap.size ≤ g) : Fst w2 a g bs (R.set u x) T' S P (w6.setCell ⟨g, u, none⟩ (.int .i64 x)) := by
  have hk : Kept (· = g) w6 (w6.setCell ⟨g, u, none⟩ (.int .i64 x)) := (Kept.refl (· = g) w6).setCell (p := ⟨g, u, none⟩) (.inl rfl) _
  refine ⟨⟨hO.at_.frame hk (fun k hp e => by subst e; exact hf hp), hO.own, hO.bel.setCell hg2 _⟩, ?_, hf, hn, h0, fun i hi => ?_⟩
  · simp only [World.setCell, Array.getElem?_modify]
    rw [if_pos trivial, hB]
    show some (Obj.cells ((ints R).toArray.setIfInBounds u (.int .i64 x)) _ _) = _
    rw [ints_set]
  · rw [set_getD R u i x hu]
    split
    · exact ⟨hx0, hx1⟩
    · exact hb i hi
/-- What loop 3 keeps. -/
structure Thd (w2 : World) (a g m : Nat) (R : List Int) (T : Int) (S : AS) (P : Nat → Prop) (wr : World) : Prop where
  own : OwnSh w2.heap.size w2 wr a S P
  blk : wr.heap[g]? = some (.cells (ints R).toArray 3 (0, 0))
  free : ¬ P g
  now : S.now = T
  t0 : 0 ≤ T
  t1 : T ≤ 2000
  r3 : R3 m R S
  bd : ∀ i, i < m → R.getD i 0 ≤ 2000
theorem Thd.next {w2 : World} {a g m : Nat} {R : List Int} {T : Int} {S : AS} {P : Nat → Prop} {w w' : World} (h : Thd w2 a g m R T S P w) (hb : Below w.heap.size w w') : Thd w2 a g m R T S P w' :=
  ⟨h.own.next h.own.bel.size hb, (hb.block g (blk_in h.blk)).trans h.blk, h.free, h.now, h.t0, h.t1, h.r3, h.bd⟩
theorem Thd.cell {w2 : World} {a g m : Nat} {R : List Int} {T : Int} {S : AS} {P : Nat → Prop} {w : World} (h : Thd w2 a g m R T S P w) {u : Nat} (hu : u < m) : w.cell? ⟨g, u, none⟩ = some (.int .i64 (R.getD u 0)) := by
  rw [cell_of_row w g u _ _ _ h.blk, List.getElem?_toArray]
  unfold ints
  rw [List.getElem?_map, getD_of (by rw [h.r3.rl]; exact hu)]; rfl
theorem Thd.store {w2 : World} {a g m k : Nat} {R : List Int} {T u : Int} {S S1 : AS} {P P1 : Nat → Prop} {w w6 : World} (h : Thd w2 a g m R T S P w) (hk : k < m) (hO : OwnSh w2.heap.size w2 w6 a S1 P1) (hB : w6.heap[g]? = some (.cells (ints R).toArray 3 (0, 0))) (hf : ¬ P1 g) (hn : S1.now = u) (u0 : 0 ≤ u) (u1 : u ≤ 2000) (hr : R3 m (R.set k (-1)) S1) (hg2 : w2.heap.size ≤ g) (o : Obj) :
    Thd w2 a g m (R.set k (-1)) u S1 P1 ((w6.setCell ⟨g, k, none⟩ (.int .i64 (-1))).alloc o) := by
  have hk : Kept (· = g) w6 ((w6.setCell ⟨g, k, none⟩ (.int .i64 (-1))).alloc o) := ((Kept.refl (· = g) w6).setCell (p := ⟨g, k, none⟩) (.inl rfl) _).alloc o
  refine ⟨⟨hO.at_.frame hk (fun k hp e => by subst e; exact hf hp), hO.own, (hO.bel.setCell hg2 _).alloc (by simpa [World.setCell] using hO.bel.size) o⟩, ?_, hf, hn, u0, u1, hr, fun i hi => ?_⟩
  · rw [Below.heap_alloc _ _ _ (by simpa [World.setCell] using blk_in hB)]
    simp only [World.setCell, Array.getElem?_modify]
    rw [if_pos trivial, hB]
    show some (Obj.cells ((ints R).toArray.setIfInBounds k (.int .i64 (-1))) _ _) = _
    rw [ints_set]
  · rw [set_getD R k i _ (by rw [h.r3.rl]; assumption)]
    split
    · decide
    · exact h.bd i hi
theorem whenSome (t : Int) : whenV (some t) = .tuple #[.int .i64 t, .bool true] := rfl
theorem whenNone : whenV none = .tuple #[.int .i64 0, .bool false] := rfl
theorem Thd.later {w2 : World} {a g m : Nat} {R : List Int} {T u : Int} {S : AS} {P : Nat → Prop} {w w' : World} (h : Thd w2 a g m R T S P w) (hk : Kept P w w') (hs : SAt w' a { S with now := u } P) (u0 : 0 ≤ u) (u1 : u ≤ 2000) (o : Obj) : Thd w2 a g m R u { S with now := u } P (w'.alloc o) :=
  Thd.next ⟨h.own.kept h.own.bel.size hk hs (fun _ h => .inl h), (hk.block g (blk_in h.blk) h.free).trans h.blk, h.free, rfl, u0, u1, r3_now h.r3 u, h.bd⟩ ((Below.refl _ _).alloc (Nat.le_refl _) o)
set_option maxRecDepth 100000 in
set_option maxHeartbeats 2000000 in
theorem first_main (A A2 : Option Addr) (n cap n2 cap2 : Nat) (gs gaps : List Int) (w : World) (hn : n ≤ 9223372036854775807) (hn2 : n2 ≤ 9223372036854775807) (h : Hid (Ints w A n gs (fun _ => False))) (g : Hid (Ints w A2 n2 gaps (fun _ => False))) :
    Calls Try.prog 5 #[.slice A n cap, .slice A2 n2 cap2] w fun e w' => e = .returned (.bool true) ∧ Below w.heap.size w w' := by
  obtain ⟨bs, hbs⟩ : ∃ bs, bagsL gs = bs := ⟨_, rfl⟩
  have HL := bagsL_len gs
  have HA := hide (bagsL_all gs)
  have HBS := hide hbs
  rw [hbs] at HL HA
  obtain ⟨m, hm⟩ : ∃ m, bs.length = m := ⟨_, rfl⟩
  rw [hm] at HL
  obtain ⟨hm1, hm6⟩ := HL
  have HM := hide hm
  clear hm hbs
  have hmk := makeN m (by omega)
  go_enter Try.func5, Try.ntmps5
  go_wp2_with fail
  refine (awake_any w).mono ?_
  rintro e w1 ⟨rfl, hb1⟩
  have HB1 := hide hb1
  have HI1 := hide (h.out.below hb1)
  have HG1 := hide (g.out.below hb1)
  clear hb1
  go_wp2_with fail
  refine (bags_any A n cap gs _ w1 hn HI1).mono ?_
  rw [HBS.out, HM.out]
  rintro e w2 ⟨v, rfl, hown, hbl⟩
  obtain ⟨Ab, cb, hv, hcb, hib⟩ := ints_own (F := fun b => b < w1.heap.size) hown HM.out (fun _ h1 h2 => by omega)
  subst hv
  have HIB := hide hib
  have HB2 := hide (HB1.out.trans (hbl.mono HB1.out.size))
  have HG2 := hide (HG1.out.below hbl)
  clear hown hbl hib HI1 HG1
  go_wp2_with fail
  refine (new_fine Ab m cb bs _ w2 HIB (by omega) HA).mono ?_
  rintro e w3 ⟨a, P, rfl, hs, hP, hbl⟩
  have HO : Hid (OwnSh w2.heap.size w2 w3 a (AS.new bs) P) := ⟨hs, hP, hbl⟩
  clear hs hP hbl
  go_wp2_with fail
  go_loopw [8, 10] (fun v8 v10 wr => ∃ (r : Nat) (T : Int) (R : List Int) (S : AS) (P' : Nat → Prop), r ≤ 2 ∧ v10 = .int .i64 r ∧ v8 = .int .i64 T ∧ T ≤ r * 400 ∧ Fst w2 a w3.heap.size bs R T S P' wr ∧ (r = 0 → R0 bs R m S) ∧ (r = 1 → R1 m R m S) ∧ (r = 2 → R1 m R 0 S ∧ S.now = T)) (fun _ v10 _ => 2 - (intOf v10).toNat)
  case atStart =>
    refine ⟨0, 0, zsN m, AS.new bs, P, by omega, rfl, rfl, by omega, ⟨HO.out.next HO.out.bel.size ((Below.refl _ _).alloc (Nat.le_refl _) _), heap_alloc_new w3 _, fun hp => by have := HO.out.at_.inn _ hp; omega, Int.le_refl _, Int.le_refl _, fun i hi => ?_⟩, fun _ => by rw [← HM.out]; exact r0_new bs, fun h => by omega, fun h => by omega⟩
    have : (zsN m).getD i 0 = 0 := by unfold zsN; rw [List.getD_eq_getElem?_getD, List.getElem?_replicate]; split <;> rfl
    omega
  case round =>
    obtain ⟨r, T, R, S, P', hr, rfl, rfl, hT, hF, h0, h1, h2⟩ := hrel
    have hr3 : r = 0 ∨ r = 1 ∨ r = 2 := by omega
    rcases hr3 with rfl | rfl | rfl
    · have hm0 : (0 : Int) ≤ (m : Int) := by omega
      have HR0 := hide (h0 rfl)
      clear h0 h1 h2
      rw [show ((0 : Nat) : Int) = 0 from rfl]
      go_wp2_with fail
      go_loopw [8, 11] (fun v8 v11 wr => ∃ (v : Nat) (T : Int) (R : List Int) (S : AS) (P' : Nat → Prop), v ≤ m ∧ v11 = .int .i64 ((v : Int) - 1) ∧ v8 = .int .i64 T ∧ T ≤ ((m : Int) - v) * 60 ∧ Fst w2 a w3.heap.size bs R T S P' wr ∧ R0 bs R v S) (fun _ v11 _ => (intOf v11 + 1).toNat)
      case atStart => exact ⟨m, T, R, S, P', Nat.le_refl _, rfl, rfl, by omega, hF, HR0.out⟩
      case round =>
        obtain ⟨v, T, R, S, P', hv, rfl, rfl, hT, hF, hR⟩ := hrel
        have HF := hide hF
        have HR := hide hR
        clear hF hR
        by_cases hv0 : v = 0
        · subst hv0
          go_wp2_with fail
          go_roundw
          case rel => exact ⟨1, T, R, S, P', by omega, rfl, rfl, by omega, HF.out, fun h => by omega, fun _ => by have := r1_start HR.out; rw [HM.out] at this; exact this, fun h => by omega⟩
          case measure => simp [intOf]
        · obtain ⟨u, rfl⟩ : ∃ u, v = u + 1 := ⟨v - 1, by omega⟩
          have e1 : ((u + 1 : Nat) : Int) - 1 = (u : Int) := by omega
          rw [e1]
          clear e1
          have hu0 : (0 : Int) ≤ (u : Int) := by omega
          have hum : u < m := by omega
          have hT0 := HF.out.t0
          have hT6 : T ≤ 360 := by omega
          have HG3 := hide (HG2.out.below (HF.out.own.bel.mono (Nat.le_refl _)))
          by_cases hg : u < n2
          · obtain ⟨bg, og, hAg, -⟩ := HG3.out.2 (by omega)
            subst hAg
            have hcg := HG3.out.cell rfl hg
            obtain ⟨r0, r1⟩ := pick_bd (gaps.getD u 0) 60 (by decide)
            have HP := hide (fun w => pick_any (gaps.getD u 0) 60 w (by decide) (by decide))
            have hgi : (u : Int) < (n2 : Int) := by omega
            generalize gaps.getD u 0 = z at *
            generalize pick z 60 = pz at *
            go_wp2_with fail
            refine (HP.out _).mono ?_
            rintro e w4 ⟨rfl, rfl⟩
            go_wp2_with fail
            obtain ⟨S1, S2, ho, hx, hr2, hs2⟩ := r0_step HR.out (by rw [HM.out]; exact hum) (T + pz) (by have := HF.out.now; omega) (by omega) (by omega)
            refine (offer_any a S P' (T + pz) u 0 0 none 0 0 [] _ (hide HF.out.own.at_) (by decide) (hide (Bts.nil _ _).rb)).mono ?_
            rw [ho]
            rintro e w5 ⟨rfl, hk5, P5, hs5, hP5⟩
            have HB5 := hide ((hk5.block w3.heap.size (blk_in HF.out.blk) HF.out.free).trans HF.out.blk)
            have HO5 := hide (HF.out.own.kept HF.out.own.bel.size hk5 hs5 (fun k hk => (hP5 k hk).imp id (·.1)))
            have HF5 : Hid (¬ P5 w3.heap.size) := fun hp => by
              rcases hP5 _ hp with h1 | h1
              · exact HF.out.free h1
              · have := blk_in HF.out.blk; omega
            have HX := hide hx
            have HR2 := hide hr2
            have HS2 := hide hs2
            clear ho hx hr2 hs2 hk5 hs5 hP5
            go_wp2_with fail
            refine (next_yes a S1 P5 (T + pz) ⟨(T + pz), u, 0, 0, []⟩ _ (hide HO5.out.at_) (hide (by rw [HX.out]))).mono ?_
            rw [HX.out]
            simp only [List.length_nil]
            rintro e w6 ⟨gg, rfl, hpg, hgb, hs6, hk6⟩
            have HB6 := hide ((hk6.block w3.heap.size (blk_in HB5.out) HF5.out).trans HB5.out)
            have HO6 := hide (HO5.out.kept HO5.out.bel.size hk6 hs6 (fun k hk => .inl hk.1))
            clear hpg hgb hs6 hk6 HB5 HO5
            obtain ⟨bb, ob, hAb, -, -, -⟩ := HIB.out.2 (by omega)
            subst hAb
            have cb := (HIB.out.below HO6.out.bel).cell rfl hum
            have hbb := cell_lt cb
            have hgg := blk_in HB6.out
            have cg : w6.cell? ⟨w3.heap.size, u, none⟩ = some (.int .i64 (R.getD u 0)) := by
              rw [cell_of_row w6 w3.heap.size u _ _ _ HB6.out, List.getElem?_toArray]
              unfold ints
              rw [List.getElem?_map, getD_of (by rw [HR.out.rl, HM.out]; exact hum)]; rfl
            have fg := frozen_of_row w6 w3.heap.size u _ _ HB6.out
            have hbu : 1 ≤ bs.getD u 0 ∧ bs.getD u 0 ≤ 200 := by
              have := bagsTo_bd gs (min gs.length 6) (bs.getD u 0) (by
                show _ ∈ bagsL gs
                rw [HBS.out, List.getD_eq_getElem?_getD, List.getElem?_eq_getElem (by rw [HM.out]; exact hum)]; exact List.getElem_mem _)
              exact this
            obtain ⟨bu0, bu1⟩ := hbu
            have hum2 : (u : Int) < (m : Int) := by omega
            have HFin := hide (Fst.store (x := (T + pz) + bs.getD u 0) (T' := (T + pz)) HO6.out HB6.out (fun hp => HF5.out hp.1) (by rw [HS2.out]; exact Int.le_refl _) (by omega) (by rw [HR.out.rl, HM.out]; exact hum) HF.out.bd (by omega) (by omega) (.cells #[.int .i64 u, .int .i64 0, .int .i64 0, .slice (some ⟨gg, 0, none⟩) 0 0] 42) HO.out.bel.size)
            generalize bs.getD u 0 = bu at *
            go_wp2_with fail
            go_roundw
            case rel => exact ⟨u, (T + pz), _, S2, _, by omega, rfl, rfl, by omega, HFin.out, HR2.out⟩
            case measure => simp [intOf] <;> omega
          · have hgi : (n2 : Int) ≤ (u : Int) := by omega
            have hgi2 : decide ((u : Int) < (n2 : Int)) = false := by simp; omega
            go_wp2_with fail
            obtain ⟨S1, S2, ho, hx, hr2, hs2⟩ := r0_step HR.out (by rw [HM.out]; exact hum) T (by have := HF.out.now; omega) (by omega) (by omega)
            refine (offer_any a S P' T u 0 0 none 0 0 [] _ (hide HF.out.own.at_) (by decide) (hide (Bts.nil _ _).rb)).mono ?_
            rw [ho]
            rintro e w5 ⟨rfl, hk5, P5, hs5, hP5⟩
            have HB5 := hide ((hk5.block w3.heap.size (blk_in HF.out.blk) HF.out.free).trans HF.out.blk)
            have HO5 := hide (HF.out.own.kept HF.out.own.bel.size hk5 hs5 (fun k hk => (hP5 k hk).imp id (·.1)))
            have HF5 : Hid (¬ P5 w3.heap.size) := fun hp => by
              rcases hP5 _ hp with h1 | h1
              · exact HF.out.free h1
              · have := blk_in HF.out.blk; omega
            have HX := hide hx
            have HR2 := hide hr2
            have HS2 := hide hs2
            clear ho hx hr2 hs2 hk5 hs5 hP5
            go_wp2_with fail
            refine (next_yes a S1 P5 T ⟨T, u, 0, 0, []⟩ _ (hide HO5.out.at_) (hide (by rw [HX.out]))).mono ?_
            rw [HX.out]
            simp only [List.length_nil]
            rintro e w6 ⟨gg, rfl, hpg, hgb, hs6, hk6⟩
            have HB6 := hide ((hk6.block w3.heap.size (blk_in HB5.out) HF5.out).trans HB5.out)
            have HO6 := hide (HO5.out.kept HO5.out.bel.size hk6 hs6 (fun k hk => .inl hk.1))
            clear hpg hgb hs6 hk6 HB5 HO5
            obtain ⟨bb, ob, hAb, -, -, -⟩ := HIB.out.2 (by omega)
            subst hAb
            have cb := (HIB.out.below HO6.out.bel).cell rfl hum
            have hbb := cell_lt cb
            have hgg := blk_in HB6.out
            have cg : w6.cell? ⟨w3.heap.size, u, none⟩ = some (.int .i64 (R.getD u 0)) := by
              rw [cell_of_row w6 w3.heap.size u _ _ _ HB6.out, List.getElem?_toArray]
              unfold ints
              rw [List.getElem?_map, getD_of (by rw [HR.out.rl, HM.out]; exact hum)]; rfl
            have fg := frozen_of_row w6 w3.heap.size u _ _ HB6.out
            have hbu : 1 ≤ bs.getD u 0 ∧ bs.getD u 0 ≤ 200 := by
              have := bagsTo_bd gs (min gs.length 6) (bs.getD u 0) (by
                show _ ∈ bagsL gs
                rw [HBS.out, List.getD_eq_getElem?_getD, List.getElem?_eq_getElem (by rw [HM.out]; exact hum)]; exact List.getElem_mem _)
              exact this
            obtain ⟨bu0, bu1⟩ := hbu
            have hum2 : (u : Int) < (m : Int) := by omega
            have HFin := hide (Fst.store (x := T + bs.getD u 0) (T' := T) HO6.out HB6.out (fun hp => HF5.out hp.1) (by rw [HS2.out]; exact Int.le_refl _) (by omega) (by rw [HR.out.rl, HM.out]; exact hum) HF.out.bd (by omega) (by omega) (.cells #[.int .i64 u, .int .i64 0, .int .i64 0, .slice (some ⟨gg, 0, none⟩) 0 0] 42) HO.out.bel.size)
            generalize bs.getD u 0 = bu at *
            go_wp2_with fail
            go_roundw
            case rel => exact ⟨u, T, _, S2, _, by omega, rfl, rfl, by omega, HFin.out, HR2.out⟩
            case measure => simp [intOf] <;> omega
    · have hm0 : (0 : Int) ≤ (m : Int) := by omega
      have HR1 := hide (h1 rfl)
      clear h0 h1 h2
      rw [show ((1 : Nat) : Int) = 1 from rfl]
      go_wp2_with fail
      go_loopw [8, 11] (fun v8 v11 wr => ∃ (v : Nat) (T : Int) (R : List Int) (S : AS) (P' : Nat → Prop), v ≤ m ∧ v11 = .int .i64 ((v : Int) - 1) ∧ v8 = .int .i64 T ∧ T ≤ 400 + ((m : Int) - v) * 60 ∧ Fst w2 a w3.heap.size bs R T S P' wr ∧ R1 m R v S ∧ (v < m → S.now = T)) (fun _ v11 _ => (intOf v11 + 1).toNat)
      case atStart => exact ⟨m, T, R, S, P', Nat.le_refl _, rfl, rfl, by omega, hF, HR1.out, fun h => by omega⟩
      case round =>
        obtain ⟨v, T, R, S, P', hv, rfl, rfl, hT, hF, hR, hnow⟩ := hrel
        have HF := hide hF
        have HR := hide hR
        have HNW := hide hnow
        clear hF hR hnow
        by_cases hv0 : v = 0
        · subst hv0
          go_wp2_with fail
          go_roundw
          case rel => exact ⟨2, T, R, S, P', by omega, rfl, rfl, by omega, HF.out, fun h => by omega, fun h => by omega, fun _ => ⟨HR.out, HNW.out (by omega)⟩⟩
          case measure => simp [intOf]
        · obtain ⟨u, rfl⟩ : ∃ u, v = u + 1 := ⟨v - 1, by omega⟩
          have e1 : ((u + 1 : Nat) : Int) - 1 = (u : Int) := by omega
          rw [e1]
          clear e1
          have hu0 : (0 : Int) ≤ (u : Int) := by omega
          have hum : u < m := by omega
          have hT0 := HF.out.t0
          have hT6 : T ≤ 800 := by omega
          have HG3 := hide (HG2.out.below (HF.out.own.bel.mono (Nat.le_refl _)))
          by_cases hg : u < n2
          · obtain ⟨bg, og, hAg, -⟩ := HG3.out.2 (by omega)
            subst hAg
            have hcg := HG3.out.cell rfl hg
            obtain ⟨r0, r1⟩ := pick_bd (gaps.getD u 0) 60 (by decide)
            have HP := hide (fun w => pick_any (gaps.getD u 0) 60 w (by decide) (by decide))
            have hgi : (u : Int) < (n2 : Int) := by omega
            generalize gaps.getD u 0 = z at *
            generalize pick z 60 = pz at *
            go_wp2_with fail
            refine (HP.out _).mono ?_
            rintro e w4 ⟨rfl, rfl⟩
            go_wp2_with fail
            obtain ⟨S1, ho, hr2, hs2⟩ := r1_step HR.out hum (T + pz) (by have := HF.out.now; omega) (by omega)
            refine (offer_any a S P' (T + pz) u 0 0 none 0 0 [] _ (hide HF.out.own.at_) (by decide) (hide (Bts.nil _ _).rb)).mono ?_
            rw [ho]
            rintro e w5 ⟨rfl, hk5, P5, hs5, hP5⟩
            have HB5 := hide ((hk5.block w3.heap.size (blk_in HF.out.blk) HF.out.free).trans HF.out.blk)
            have HO5 := hide (HF.out.own.kept HF.out.own.bel.size hk5 hs5 (fun k hk => (hP5 k hk).imp id (·.1)))
            have HF5 : Hid (¬ P5 w3.heap.size) := fun hp => by
              rcases hP5 _ hp with h1 | h1
              · exact HF.out.free h1
              · have := blk_in HF.out.blk; omega
            have HR2 := hide hr2
            have HS2 := hide hs2
            clear ho hr2 hs2 hk5 hs5 hP5
            have hgg := blk_in HB5.out
            have cg : w5.cell? ⟨w3.heap.size, u, none⟩ = some (.int .i64 (R.getD u 0)) := by
              rw [cell_of_row w5 w3.heap.size u _ _ _ HB5.out, List.getElem?_toArray]
              unfold ints
              rw [List.getElem?_map, getD_of (by rw [HR.out.rl]; exact hum)]; rfl
            have fg := frozen_of_row w5 w3.heap.size u _ _ HB5.out
            have hru := HF.out.bd u (by rw [HM.out]; exact hum)
            obtain ⟨ru0, ru1⟩ := hru
            have hum2 : (u : Int) < (m : Int) := by omega
            have HFin := hide (fun x hx0 hx1 => Fst.store0 (x := x) (T' := (T + pz)) HO5.out HB5.out HF5.out (by rw [HS2.out]; exact Int.le_refl _) (by omega) (by rw [HR.out.rl]; exact hum) HF.out.bd hx0 hx1 HO.out.bel.size)
            generalize R.getD u 0 = ru at *
            have HMX : Hid ((if ru < (T + pz) then (T + pz) else ru) = if (T + pz) < ru then ru else (T + pz)) := by unfold Hid; split <;> split <;> omega
            go_wp2_with fail
            go_roundw
            case rel => exact ⟨u, (T + pz), _, S1, _, by omega, rfl, rfl, by omega, HFin.out _ (by split <;> omega) (by split <;> omega), by rw [HMX.out]; exact HR2.out, fun _ => HS2.out⟩
            case measure => simp [intOf] <;> omega
          · have hgi : (n2 : Int) ≤ (u : Int) := by omega
            have hgi2 : decide ((u : Int) < (n2 : Int)) = false := by simp; omega
            go_wp2_with fail
            obtain ⟨S1, ho, hr2, hs2⟩ := r1_step HR.out hum T (by have := HF.out.now; omega) (by omega)
            refine (offer_any a S P' T u 0 0 none 0 0 [] _ (hide HF.out.own.at_) (by decide) (hide (Bts.nil _ _).rb)).mono ?_
            rw [ho]
            rintro e w5 ⟨rfl, hk5, P5, hs5, hP5⟩
            have HB5 := hide ((hk5.block w3.heap.size (blk_in HF.out.blk) HF.out.free).trans HF.out.blk)
            have HO5 := hide (HF.out.own.kept HF.out.own.bel.size hk5 hs5 (fun k hk => (hP5 k hk).imp id (·.1)))
            have HF5 : Hid (¬ P5 w3.heap.size) := fun hp => by
              rcases hP5 _ hp with h1 | h1
              · exact HF.out.free h1
              · have := blk_in HF.out.blk; omega
            have HR2 := hide hr2
            have HS2 := hide hs2
            clear ho hr2 hs2 hk5 hs5 hP5
            have hgg := blk_in HB5.out
            have cg : w5.cell? ⟨w3.heap.size, u, none⟩ = some (.int .i64 (R.getD u 0)) := by
              rw [cell_of_row w5 w3.heap.size u _ _ _ HB5.out, List.getElem?_toArray]
              unfold ints
              rw [List.getElem?_map, getD_of (by rw [HR.out.rl]; exact hum)]; rfl
            have fg := frozen_of_row w5 w3.heap.size u _ _ HB5.out
            have hru := HF.out.bd u (by rw [HM.out]; exact hum)
            obtain ⟨ru0, ru1⟩ := hru
            have hum2 : (u : Int) < (m : Int) := by omega
            have HFin := hide (fun x hx0 hx1 => Fst.store0 (x := x) (T' := T) HO5.out HB5.out HF5.out (by rw [HS2.out]; exact Int.le_refl _) (by omega) (by rw [HR.out.rl]; exact hum) HF.out.bd hx0 hx1 HO.out.bel.size)
            generalize R.getD u 0 = ru at *
            have HMX : Hid ((if ru < T then T else ru) = if T < ru then ru else T) := by unfold Hid; split <;> split <;> omega
            go_wp2_with fail
            go_roundw
            case rel => exact ⟨u, T, _, S1, _, by omega, rfl, rfl, by omega, HFin.out _ (by split <;> omega) (by split <;> omega), by rw [HMX.out]; exact HR2.out, fun _ => HS2.out⟩
            case measure => simp [intOf] <;> omega
    · have HR1 := hide (h2 rfl).1
      have HNW := hide (h2 rfl).2
      have HF := hide hF
      clear h0 h1 h2 hF
      rw [show ((2 : Nat) : Int) = 2 from rfl]
      go_wp2_with fail
      go_loopw [8, 104] (fun v8 v104 wr => ∃ (j : Nat) (T : Int) (R : List Int) (S : AS) (P' : Nat → Prop), j ≤ m ∧ v104 = .int .i64 j ∧ v8 = .int .i64 T ∧ cntR R + j = m ∧ Thd w2 a w3.heap.size m R T S P' wr) (fun _ v104 _ => m - (intOf v104).toNat)
      case atStart =>
        have hr3 := r1_r3 HR1.out (fun i hi => (HF.out.bd i (by rw [HM.out]; exact hi)).1)
        exact ⟨0, T, R, S, P', Nat.zero_le _, rfl, rfl, by rw [cntR_all R (fun i hi => (HF.out.bd i (by rw [HM.out, ← HR1.out.rl]; exact hi)).1), HR1.out.rl]; omega, ⟨HF.out.own, HF.out.blk, HF.out.free, HNW.out, HF.out.t0, by omega, hr3, fun i hi => (HF.out.bd i (by rw [HM.out]; exact hi)).2⟩⟩
      case round =>
        clear HR1 HNW HF
        obtain ⟨j, T, R, S, P', hj, rfl, rfl, hcnt, hth⟩ := hrel
        have HT := hide hth
        have HC := hide hcnt
        clear hth hcnt
        have hj0 : (0 : Int) ≤ (j : Int) := by omega
        by_cases hjm : j < m
        · obtain ⟨k, hkb, hk, hk0, hkm⟩ := r3_best HT.out.r3 (by have := HC.out; omega)
          have HKB := hide hkb
          have HKM := hide hkm
          clear hkb hkm
          have hjm1 : (j : Int) < (m : Int) := by omega
          go_wp2_with fail
          obtain ⟨wo, rfl⟩ : ∃ wo : World, wo = wr := ⟨_, rfl⟩
          go_loopw [15, 16] (fun v15 v16 wi => ∃ v : Nat, v ≤ m ∧ v16 = .int .i64 v ∧ v15 = .int .i64 (bestR R v) ∧ ∃ d, wi = wo.drewN d) (fun _ v16 _ => m - (intOf v16).toNat)
          case atStart => exact ⟨0, Nat.zero_le _, rfl, rfl, 0, rfl⟩
          case round =>
            obtain ⟨v, hv, rfl, rfl, d, rfl⟩ := hrel
            have hv0 : (0 : Int) ≤ (v : Int) := by omega
            by_cases hvm : v < m
            · have hvm1 : (v : Int) < (m : Int) := by omega
              have cv := HT.out.cell hvm
              by_cases hneg : R.getD v 0 < 0
              · have HBS2 := hide (bestR_skip hneg)
                have hd : decide (0 ≤ R.getD v 0) = false := decide_eq_false (by omega)
                generalize R.getD v 0 = rv at *
                generalize bestR R v = bv at *
                go_wp2_with fail
                go_quiet (fail)
                go_wp2_with fail
                go_roundw
                case rel => exact ⟨v + 1, by omega, by go_num, by rw [HBS2.out], _, rfl⟩
                case measure => simp [intOf]; omega
              · have hpos : 0 ≤ R.getD v 0 := by omega
                rcases bestR_bd R v with hb | ⟨jb, hjb, hb⟩
                · have HBS2 := hide (bestR_new hpos hb)
                  rw [hb]
                  clear hb
                  generalize R.getD v 0 = rv at *
                  go_wp2_with fail
                  go_quiet (fail)
                  go_wp2_with fail
                  go_roundw
                  case rel => exact ⟨v + 1, by omega, by go_num, by rw [HBS2.out], _, rfl⟩
                  case measure => simp [intOf]; omega
                · have cj := HT.out.cell (show jb < m by omega)
                  have hjb0 : (0 : Int) ≤ (jb : Int) := by omega
                  have hjb1 : (jb : Int) < (m : Int) := by omega
                  have hjd : decide ((jb : Int) < 0) = false := decide_eq_false (by omega)
                  by_cases hl : R.getD v 0 < R.getD jb 0
                  · have HBS2 := hide (bestR_less hpos hb hl)
                    rw [hb]
                    clear hb
                    generalize R.getD v 0 = rv at *
                    generalize R.getD jb 0 = rj at *
                    go_wp2_with fail
                    go_quiet (fail)
                    go_wp2_with fail
                    go_roundw
                    case rel => exact ⟨v + 1, by omega, by go_num, by rw [HBS2.out], _, rfl⟩
                    case measure => simp [intOf]; omega
                  · have HBS2 := hide (bestR_keep hb (show R.getD jb 0 ≤ R.getD v 0 by omega))
                    have hld : decide (R.getD v 0 < R.getD jb 0) = false := decide_eq_false hl
                    rw [hb]
                    clear hb
                    generalize R.getD v 0 = rv at *
                    generalize R.getD jb 0 = rj at *
                    go_wp2_with fail
                    go_quiet (fail)
                    go_wp2_with fail
                    go_roundw
                    case rel => exact ⟨v + 1, by omega, by go_num, by rw [HBS2.out], _, rfl⟩
                    case measure => simp [intOf]; omega
            · obtain rfl : m = v := by omega
              rw [HKM.out]
              have HT2 := hide (HT.out.next (below_drewN (Below.refl _ _) d))
              clear HT
              generalize wo.drewN d = wx at *
              go_wp2_with fail
              refine (when_any a S P' wx (hide HT2.out.own.at_)).mono ?_
              have HW := hide (r3_when HT2.out.r3 HKB.out)
              have crk := HT2.out.cell hk
              have rk2 := HT2.out.bd k hk
              have hTn := hide HT2.out.now
              have hT0 := HT2.out.t0
              have hT1 := HT2.out.t1
              rw [HW.out, hTn.out, whenSome]
              have hkk : (k : Int) < (m : Int) := by omega
              have hkk0 : (0 : Int) ≤ (k : Int) := by omega
              have HCS := hide (cntR_set R k (by rw [HT2.out.r3.rl]; exact hk) hk0)
              obtain ⟨rk, hrk⟩ : ∃ rk, R.getD k 0 = rk := ⟨_, rfl⟩
              have HRK := hide hrk
              rw [hrk] at hk0 crk rk2 ⊢
              clear hrk
              rcases Int.lt_trichotomy rk T with hle | hle | hle
              · obtain ⟨S1, ⟨xt, xv, xn, xsq, xb⟩, hx, hxv, hr1, hs1⟩ := r3_pop HT2.out.r3 HKB.out T (by rw [hTn.out]; exact Int.le_refl _) (by omega) (by rw [HRK.out]; omega)
                change xv = (k : Int) at hxv
                subst hxv
                have HX := hide hx
                have HR1 := hide hr1
                have HS1 := hide hs1
                clear hx hr1 hs1
                rw [if_pos hle]
                rintro e w5 ⟨rfl, d2, rfl⟩
                have HT3 := hide (HT2.out.next (below_drewN (Below.refl _ _) d2))
                have crk3 : (wx.drewN d2).cell? ⟨w3.heap.size, k, none⟩ = some (.int .i64 rk) := crk
                clear HT2 crk
                generalize wx.drewN d2 = wy at *
                go_wp2_with fail
                refine (next_yes a S P' T ⟨xt, k, xn, xsq, xb⟩ wy (hide HT3.out.own.at_) (hide (by rw [HX.out]))).mono ?_
                rw [HX.out]
                rintro e w6 ⟨gg, rfl, hpg, hgb, hs6, hk6⟩
                have HB6 := hide ((hk6.block w3.heap.size (blk_in HT3.out.blk) HT3.out.free).trans HT3.out.blk)
                have HO6 := hide (HT3.out.own.kept HT3.out.own.bel.size hk6 hs6 (fun k hk => .inl hk.1))
                have fg := frozen_of_row w6 w3.heap.size k _ _ HB6.out
                have c6 : w6.cell? ⟨w3.heap.size, k, none⟩ = some (.int .i64 (R.getD k 0)) := by
                  rw [cell_of_row w6 w3.heap.size k _ _ _ HB6.out, List.getElem?_toArray]
                  unfold ints
                  rw [List.getElem?_map, getD_of (by rw [HT3.out.r3.rl]; exact hk)]; rfl
                have HFin := hide (HT3.out.store hk HO6.out HB6.out (fun hp => HT3.out.free hp.1) HS1.out (by omega) (by omega) HR1.out HO.out.bel.size (.cells #[.int .i64 k, .int .i64 xn, .int .i64 xsq, .slice (some ⟨gg, 0, none⟩) xb.length xb.length] 42))
                have hgg := blk_in HB6.out
                clear hpg hgb hs6 hk6
                go_wp2_with fail
                go_roundw
                case rel => exact ⟨j + 1, T, _, S1, _, by omega, by go_num, rfl, by have := HCS.out; have := HC.out; omega, HFin.out⟩
                case measure => simp [intOf]; omega
              · obtain rfl : T = rk := hle.symm
                clear hle
                obtain ⟨S1, ⟨xt, xv, xn, xsq, xb⟩, hx, hxv, hr1, hs1⟩ := r3_pop HT2.out.r3 HKB.out T (by rw [hTn.out]; exact Int.le_refl _) (by omega) (by rw [HRK.out]; exact Int.le_refl _)
                change xv = (k : Int) at hxv
                subst hxv
                have HX := hide hx
                have HR1 := hide hr1
                have HS1 := hide hs1
                clear hx hr1 hs1
                rw [if_neg (Int.lt_irrefl T)]
                rintro e w5 ⟨rfl, d2, rfl⟩
                have HT3 := hide (HT2.out.next (below_drewN (Below.refl _ _) d2))
                have crk3 : (wx.drewN d2).cell? ⟨w3.heap.size, k, none⟩ = some (.int .i64 T) := crk
                clear HT2 crk
                generalize wx.drewN d2 = wy at *
                go_wp2_with fail
                refine (next_yes a S P' T ⟨xt, k, xn, xsq, xb⟩ wy (hide HT3.out.own.at_) (hide (by rw [HX.out]))).mono ?_
                rw [HX.out]
                rintro e w6 ⟨gg, rfl, hpg, hgb, hs6, hk6⟩
                have HB6 := hide ((hk6.block w3.heap.size (blk_in HT3.out.blk) HT3.out.free).trans HT3.out.blk)
                have HO6 := hide (HT3.out.own.kept HT3.out.own.bel.size hk6 hs6 (fun k hk => .inl hk.1))
                have fg := frozen_of_row w6 w3.heap.size k _ _ HB6.out
                have c6 : w6.cell? ⟨w3.heap.size, k, none⟩ = some (.int .i64 (R.getD k 0)) := by
                  rw [cell_of_row w6 w3.heap.size k _ _ _ HB6.out, List.getElem?_toArray]
                  unfold ints
                  rw [List.getElem?_map, getD_of (by rw [HT3.out.r3.rl]; exact hk)]; rfl
                have HFin := hide (HT3.out.store hk HO6.out HB6.out (fun hp => HT3.out.free hp.1) HS1.out (by omega) (by omega) HR1.out HO.out.bel.size (.cells #[.int .i64 k, .int .i64 xn, .int .i64 xsq, .slice (some ⟨gg, 0, none⟩) xb.length xb.length] 42))
                have hgg := blk_in HB6.out
                clear hpg hgb hs6 hk6
                go_wp2_with fail
                go_roundw
                case rel => exact ⟨j + 1, T, _, S1, _, by omega, by go_num, rfl, by have := HCS.out; have := HC.out; omega, HFin.out⟩
                case measure => simp [intOf]; omega
              · have hw1 := r3_wait HT2.out.r3 HKB.out (rk - 1) (by rw [hTn.out]; omega) (by omega) (by rw [HRK.out]; omega)
                have HW1 := hide hw1
                obtain ⟨S1, ⟨xt, xv, xn, xsq, xb⟩, hx, hxv, hr1, hs1⟩ := r3_pop (r3_now HT2.out.r3 (rk - 1)) (S := { S with now := rk - 1 }) (k := k) (by rw [AS.best_now]; exact HKB.out) rk (by show rk - 1 ≤ rk; omega) (by omega) (by rw [HRK.out]; exact Int.le_refl _)
                change xv = (k : Int) at hxv
                subst hxv
                have HX := hide hx
                have HR1 := hide hr1
                have HS1 := hide hs1
                clear hx hr1 hs1 hw1
                rw [if_neg (by omega)]
                rintro e w5 ⟨rfl, d2, rfl⟩
                have HT3 := hide (HT2.out.next (below_drewN (Below.refl _ _) d2))
                have crk3 : (wx.drewN d2).cell? ⟨w3.heap.size, k, none⟩ = some (.int .i64 rk) := crk
                clear HT2 crk
                generalize wx.drewN d2 = wy at *
                go_wp2_with fail
                refine (next_no a S P' (rk - 1) wy (hide HT3.out.own.at_) (hide (by rw [HW1.out]))).mono ?_
                rw [HW1.out]
                unfold zeroFrame
                rintro e w4 ⟨rfl, hs4, hk4⟩
                have HT4 := hide (HT3.out.later hk4 hs4 (by omega) (by omega) (.cells #[.int .i64 0, .int .i64 0, .int .i64 0, .slice none 0 0] 42))
                clear hs4 hk4 HT3
                go_wp2_with fail
                refine (next_yes a { S with now := rk - 1 } P' rk ⟨xt, k, xn, xsq, xb⟩ _ (hide HT4.out.own.at_) (hide (by rw [HX.out]))).mono ?_
                rw [HX.out]
                rintro e w6 ⟨gg, rfl, hpg, hgb, hs6, hk6⟩
                have HB6 := hide ((hk6.block w3.heap.size (blk_in HT4.out.blk) HT4.out.free).trans HT4.out.blk)
                have HO6 := hide (HT4.out.own.kept HT4.out.own.bel.size hk6 hs6 (fun k hk => .inl hk.1))
                have fg := frozen_of_row w6 w3.heap.size k _ _ HB6.out
                have c6 : w6.cell? ⟨w3.heap.size, k, none⟩ = some (.int .i64 (R.getD k 0)) := by
                  rw [cell_of_row w6 w3.heap.size k _ _ _ HB6.out, List.getElem?_toArray]
                  unfold ints
                  rw [List.getElem?_map, getD_of (by rw [HT4.out.r3.rl]; exact hk)]; rfl
                have HFin := hide (HT4.out.store hk HO6.out HB6.out (fun hp => HT4.out.free hp.1) HS1.out (by omega) (by omega) HR1.out HO.out.bel.size (.cells #[.int .i64 k, .int .i64 xn, .int .i64 xsq, .slice (some ⟨gg, 0, none⟩) xb.length xb.length] 42))
                have hgg := blk_in HB6.out
                clear hpg hgb hs6 hk6
                go_wp2_with fail
                go_roundw
                case rel => exact ⟨j + 1, rk, _, S1, _, by omega, by go_num, rfl, by have := HCS.out; have := HC.out; omega, HFin.out⟩
                case measure => simp [intOf]; omega
        · have hjm2 : (m : Int) ≤ (j : Int) := by omega
          have HN := hide (r3_none HT.out.r3 (by have := HC.out; omega))
          go_wp2_with fail
          refine (when_any a S P' wr (hide HT.out.own.at_)).mono ?_
          rw [HN.out, whenNone]
          rintro e w5 ⟨rfl, d2, rfl⟩
          go_wp2_with fail
          go_ret
          exact ⟨rfl, below_drewN (HB2.out.trans (HT.out.own.bel.mono HB2.out.size)) _⟩
end Go.Proofs.Ytdfhnbkmppdplaa
