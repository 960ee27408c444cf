/-
  Merged texts: parse: thing.
-/
import Derived.Test.YtlngbjphagnloaaGreatDoorPk1
import Derived.Test.YtlngbjphagnloaaGreatDoorPk15
import Derived.Test.YtlngbjphagnloaaGreatDoorPk16
namespace Go.Proofs.YtlngbjphagnloaaGreatDoor
open Go.RowKit
open Go.ChangeMaps (setBlock)
attribute [local go_sem] Later.cell
theorem setBlock_new (w : World) (o o' : Obj) : setBlock (w.alloc o) w.heap.size o' = w.alloc o' := by
  have h : (w.heap.push o).setIfInBounds w.heap.size o' = w.heap.push o' := by
    refine Array.ext_getElem? fun i => ?_
    rw [Array.getElem?_setIfInBounds, Array.getElem?_push, Array.getElem?_push]
    by_cases hi : w.heap.size = i
    · subst hi; simp
    · have hi2 : ¬ i = w.heap.size := fun e => hi e.symm
      simp [hi, hi2]
  unfold setBlock
  show ({ (w.alloc o) with heap := (w.heap.push o).setIfInBounds w.heap.size o' } : World) = w.alloc o'
  rw [h]; rfl
theorem run_insF (w : World) (tb : Nat) (htb : tb = w.heap.size) (es : Array MapEntry) (c : Nat) (K : ByteArray) (v : Value) (hf : Instr.findNow .string (.string K) es.toList 0 = some none) :
    (Instr.mapUpdate 223 (.map (some tb)) (.string K) v).run Tryz.prog (w.alloc (.map es c)) = .ok () (w.alloc (.map (es.push { key := .string K, val := v, born := c }) (c + 1))) := by
  subst htb
  have hb := heap_alloc_new w (.map es c)
  have hs := setBlock_new w (.map es c) (.map (es.push { key := .string K, val := v, born := c }) (c + 1))
  unfold setBlock at hs
  simp [Instr.mapUpdate, run_underlying Tryz.underlying223, MapKept.run_getObj_map hb, run_ckI, Instr.findKey, run_underlying Tryz.underlying9, hf, MapKept.run_setObj_map _ hb, Result.andThen]
  exact hs
def thgs (v1 v2 v3 v4 : Value) : Array MapEntry := #[⟨strV [115, 101, 109, 97, 115], v1, 0⟩, ⟨strV [98, 117, 102, 115], v2, 1⟩, ⟨strV [101, 118, 101, 110, 116, 115], v3, 2⟩, ⟨strV [98, 111, 97, 114, 100, 115], v4, 3⟩]
def thgL (v1 v2 v3 v4 : Value) : List (List UInt8 × Value) := [([115, 101, 109, 97, 115], v1), ([98, 117, 102, 115], v2), ([101, 118, 101, 110, 116, 115], v3), ([98, 111, 97, 114, 100, 115], v4)]
theorem zeroF (w : World) : (zeroValue 1).run Tryz.prog w = .ok .nilFunc w := by kernel_rfl
theorem run_lookF {w : World} {tb c : Nat} {v1 v2 v3 v4 : Value} (h : w.heap[tb]? = some (.map (thgs v1 v2 v3 v4) c)) (K : ByteArray) (v : Value) (hv : (thgL v1 v2 v3 v4).find? (fun p => K.data.toList == p.1) = some (K.data.toList, v)) :
    (Instr.lookup 223 (.map (some tb)) (.string K) false).run Tryz.prog w = .ok v w := by
  obtain ⟨n, hn⟩ := (findNow_list K (thgs v1 v2 v3 v4).toList (thgL v1 v2 v3 v4) 0 rfl).2 v hv
  simp [Instr.lookup, run_underlying Tryz.underlying223, MapKept.run_getObj_map h, run_ckI, Instr.findKey, run_underlying Tryz.underlying9, hn, Result.andThen]
theorem run_lookN {w : World} {tb c : Nat} {v1 v2 v3 v4 : Value} (h : w.heap[tb]? = some (.map (thgs v1 v2 v3 v4) c)) (K : ByteArray) (hv : K.data.toList ∉ (thgL v1 v2 v3 v4).map (·.1)) :
    (Instr.lookup 223 (.map (some tb)) (.string K) false).run Tryz.prog w = .ok .nilFunc w := by
  have hn := (findNow_list K (thgs v1 v2 v3 v4).toList (thgL v1 v2 v3 v4) 0 rfl).1 hv
  simp [Instr.lookup, run_underlying Tryz.underlying223, MapKept.run_getObj_map h, run_ckI, Instr.findKey, run_underlying Tryz.underlying9, hn, Result.andThen]
theorem neq_fun (fn : Fn) (first caps : Array Value) (w : World) : (binOp .neq 1 (.func fn first caps) .nilFunc).run Tryz.prog w = .ok (.bool true) w := by kernel_rfl
theorem neq_nil (w : World) : (binOp .neq 1 .nilFunc .nilFunc).run Tryz.prog w = .ok (.bool false) w := by kernel_rfl
def cloV (f : FuncId) (W : World) : Value := .func (.func f) #[] #[.pointer (some ⟨W.heap.size, 0, none⟩), .pointer (some ⟨W.heap.size + 1, 0, none⟩)]
/-- The world behind the boxes and the map of closures. -/
def thgW (W : World) (pb bb : Nat) : World := ((W.alloc (Obj.cells #[Value.pointer (some ⟨pb, 0, none⟩)] 85)).alloc (Obj.cells #[Value.pointer (some ⟨bb, 0, none⟩)] 201)).alloc (.map (thgs (cloV 157 W) (cloV 159 W) (cloV 160 W) (cloV 161 W)) 4)
structure ThgF (W V : World) (pb bb : Nat) : Prop where
  below : Below W.heap.size W V
  size : W.heap.size + 3 ≤ V.heap.size
  c0 : V.cell? ⟨W.heap.size, 0, none⟩ = some (.pointer (some ⟨pb, 0, none⟩))
  c1 : V.cell? ⟨W.heap.size + 1, 0, none⟩ = some (.pointer (some ⟨bb, 0, none⟩))
  map : V.heap[W.heap.size + 1 + 1]? = some (.map (thgs (cloV 157 W) (cloV 159 W) (cloV 160 W) (cloV 161 W)) 4)
theorem thgW_facts (W : World) (pb bb : Nat) : ThgF W (thgW W pb bb) pb bb := by
  unfold thgW
  refine ⟨(((Below.refl _ _).alloc (Nat.le_refl _) _).alloc (by simp) _).alloc (by simp; omega) _, by simp, by simp [go_sem], by simp [go_sem], ?_⟩
  have := heap_alloc_new ((W.alloc (Obj.cells #[Value.pointer (some ⟨pb, 0, none⟩)] 85)).alloc (Obj.cells #[Value.pointer (some ⟨bb, 0, none⟩)] 201)) (.map (thgs (cloV 157 W) (cloV 159 W) (cloV 160 W) (cloV 161 W)) 4)
  simpa using this
/-- They stay, wherever only the parser's block, the builder's and its map, and rows are written. -/
theorem ThgF.keep {F : Nat → Prop} {W V V' : World} {pb bb : Nat} (h : ThgF W V pb bb) (hk : Kept F V V') (hF : ∀ k, W.heap.size ≤ k → ¬ F k) : V'.cell? ⟨W.heap.size, 0, none⟩ = some (.pointer (some ⟨pb, 0, none⟩)) ∧ V'.cell? ⟨W.heap.size + 1, 0, none⟩ = some (.pointer (some ⟨bb, 0, none⟩)) ∧ W.heap.size + 3 ≤ V'.heap.size := by
  have hz := h.size
  exact ⟨(hk.cell (p := ⟨W.heap.size, 0, none⟩) (Nat.lt_of_lt_of_le (by show W.heap.size < W.heap.size + 3; omega) hz) (hF _ (Nat.le_refl _))).trans h.c0, (hk.cell (p := ⟨W.heap.size + 1, 0, none⟩) (Nat.lt_of_lt_of_le (by show W.heap.size + 1 < W.heap.size + 3; omega) hz) (hF _ (by show W.heap.size ≤ W.heap.size + 1; omega))).trans h.c1, Nat.le_trans hz hk.size⟩
theorem Kept.blk (w : World) (mb : Nat) (o : Obj) : Kept (fun k => k = mb) w (setBlock w mb o) := ⟨rfl, rfl, rfl, by rw [setBlock_size]; exact Nat.le_refl _, fun k _ hk => setBlock_far w mb k o hk⟩
set_option maxRecDepth 100000 in
set_option maxHeartbeats 4000000 in
theorem thg_semas (pb i0 j bb mb B : Nat) (ts : List Tok) (b : BuildD) (v4 v7 v8 v9 : Value) (W0 W : World) (H0 : Hid (Cur pb ts i0 W0)) (hts : ts.length ≤ 1000000) (hj : j ≤ ts.length) (hT : Hid (TokOk ts)) (HA : Hid (AtJ pb j W0 W)) (HB : Hid (BSt pb bb mb B b v4 v7 v8 v9 W)) (hpW : pb < W0.heap.size) (hW0 : W0.heap.size ≤ bb) (hW1 : W0.heap.size ≤ mb) (hE : Hid (EnvP W)) (hpE : 3 ≤ pb)(hw : Hid ((hdT (ts.drop j)).text = [115, 101, 109, 97, 115])) :
    Calls Tryz.prog 137 #[.pointer (some ⟨pb, 0, none⟩), .pointer (some ⟨bb, 0, none⟩)] W fun e W' => EndsB pb ts W0 bb mb B (thingP b (ts.drop j)) e W' ∧ Kept (fun k => k = pb ∨ k = bb ∨ k = mb ∨ B ≤ k) W W' := by
  have hts' : ts.length ≤ 1099511627776 := by omega
  have H := hide (H0.out.to HA.out)
  obtain ⟨l1, l2, l3, l4, l5, l6⟩ := HB.out.low
  have hgd := hide hT.out.good
  have hpW' : pb < W.heap.size := by omega
  have ft1 := field_tok1
  have hmm := @run_makeMap Tryz.prog
  have hmf : ∀ (fn : Fn) (first cap : Array Value) (w : World), (Instr.makeFunc fn first cap).run Tryz.prog w = .ok (.func fn first cap) w := fun _ _ _ _ => rfl
  have hi1 := fun (v : Value) => run_insF ((W.alloc (Obj.cells #[Value.pointer (some ⟨pb, 0, none⟩)] 85)).alloc (Obj.cells #[Value.pointer (some ⟨bb, 0, none⟩)] 201)) (W.heap.size + 1 + 1) (by simp) #[] 0 ⟨#[115, 101, 109, 97, 115]⟩ v rfl
  have hi2 := fun (v1 v : Value) => run_insF ((W.alloc (Obj.cells #[Value.pointer (some ⟨pb, 0, none⟩)] 85)).alloc (Obj.cells #[Value.pointer (some ⟨bb, 0, none⟩)] 201)) (W.heap.size + 1 + 1) (by simp) #[⟨.string ⟨#[115, 101, 109, 97, 115]⟩, v1, 0⟩] 1 ⟨#[98, 117, 102, 115]⟩ v (by kernel_rfl)
  have hi3 := fun (v1 v2 v : Value) => run_insF ((W.alloc (Obj.cells #[Value.pointer (some ⟨pb, 0, none⟩)] 85)).alloc (Obj.cells #[Value.pointer (some ⟨bb, 0, none⟩)] 201)) (W.heap.size + 1 + 1) (by simp) #[⟨.string ⟨#[115, 101, 109, 97, 115]⟩, v1, 0⟩, ⟨.string ⟨#[98, 117, 102, 115]⟩, v2, 1⟩] 2 ⟨#[101, 118, 101, 110, 116, 115]⟩ v (by kernel_rfl)
  have hi4 := fun (v1 v2 v3 v : Value) => run_insF ((W.alloc (Obj.cells #[Value.pointer (some ⟨pb, 0, none⟩)] 85)).alloc (Obj.cells #[Value.pointer (some ⟨bb, 0, none⟩)] 201)) (W.heap.size + 1 + 1) (by simp) #[⟨.string ⟨#[115, 101, 109, 97, 115]⟩, v1, 0⟩, ⟨.string ⟨#[98, 117, 102, 115]⟩, v2, 1⟩, ⟨.string ⟨#[101, 118, 101, 110, 116, 115]⟩, v3, 2⟩] 3 ⟨#[98, 111, 97, 114, 100, 115]⟩ v (by kernel_rfl)
  go_enter Tryz.func137, Tryz.ntmps137
  go_wp2_with fail
  change Calls _ _ _ (thgW W pb bb) _
  have HF := hide (thgW_facts W pb bb)
  generalize thgW W pb bb = V at *
  clear hi1 hi2 hi3 hi4 hmm hmf
  have HAV := hide (HA.out.below hpW HF.out.below)
  have HBV := hide (HB.out.below HF.out.below)
  have HCV := hide (H.out.below HF.out.below)
  have HEV := hide (hE.out.below HF.out.below)
  have HC := hide (here_any pb j ts V HCV hts' hj)
  generalize ht : hdT (ts.drop j) = t at HC hw
  have HT0 := hide ht
  clear ht
  obtain ⟨κ, tx, ta⟩ := t
  unfold tokVal at HC
  dsimp only at HC hw
  generalize (κ : Int) = κz at HC
  generalize (ta : Int) = taz at HC
  refine (HC.out).mono ?_
  rintro e w1 ⟨rfl, hb⟩
  have HK1 := hide ((Kept.of_below hb : Kept (fun k => k = pb ∨ k = bb ∨ k = mb) V w1))
  have HA1 := hide (HAV.out.below hpW hb)
  have HB1 := hide (HBV.out.below hb)
  have HC1 := hide (HCV.out.below hb)
  have HE1 := hide (HEV.out.below hb)
  have HM1 := hide ((hb.block _ (by have := HF.out.size; omega)).trans HF.out.map)
  clear hb HC HAV HBV HCV HEV
  have hjl : j < ts.length := by
    rcases Nat.lt_or_ge j ts.length with h | h
    · exact h
    · have h1 := hw.out
      rw [hdT_end ts j h] at HT0
      have h2 := congrArg Tok.text HT0.out
      simp only at h2
      rw [← h2] at h1
      cases h1
  have HTH := hide (thing_semas hT.out j b (by rw [HT0.out]; exact hw.out))
  have hFF : ∀ k, W.heap.size ≤ k → ¬ (k = pb ∨ k = bb ∨ k = mb) := fun k hk => by omega
  have HFF := hide hFF
  clear hFF
  generalize hKK : (⟨tx.toArray⟩ : ByteArray) = K at *
  have HKW : Hid (K.data.toList = [115, 101, 109, 97, 115]) := hide (by rw [← hKK]; exact hw.out)
  clear hKK hw HT0
  have hl := run_lookF HM1.out K (cloV 157 W) (by rw [HKW.out]; rfl)
  unfold cloV at hl
  have hne := neq_fun
  go_wp2_with fail
  clear hne
  obtain ⟨hp0, hp1, hz1⟩ := HF.out.keep HK1.out HFF.out
  refine wp_region_tail (S := fun w' => w'.cell? ⟨W.heap.size, 0, none⟩ = some (.pointer (some ⟨pb, 0, none⟩)) ∧ w'.cell? ⟨W.heap.size + 1, 0, none⟩ = some (.pointer (some ⟨bb, 0, none⟩)) ∧ w'.heap[bb]? = some (bldRow b.p mb v4 v7 v8 v9) ∧ Seen w' mb b.what) 10 (by kernel_rfl) (by kernel_rfl) ⟨hp0, hp1, HB1.out.row, HB1.out.seen⟩ (fun hHeld => ?_)
  have HKd := hide (HK1.out.drew)
  have HAd := hide (HA1.out.drew)
  have HBd := hide (HB1.out.bare (w' := w1.drew) rfl)
  have HCd := hide (HC1.out.to (AtJ.start HC1.out.now HC1.out.free).drew)
  have HEd := hide (HE1.out.below ((Below.refl w1.heap.size w1).drew))
  clear HK1 HA1 HB1 HC1 HE1 HM1 hl hp0 hp1 hz1
  generalize w1.drew = V2 at *
  refine tk 0 37 rfl (by kernel_rfl) (fun _ _ _ h => h) rfl (fun _ hS => by have e1 := hS.1; go_simp; with_reducible rfl) hHeld ?_
  (try simp only [Act.put, putA, putB, putC])
  refine tk 1 38 rfl (by kernel_rfl) (fun _ _ _ h => h) rfl (fun _ hS => by skip; go_simp; with_reducible rfl) hHeld ?_
  (try simp only [Act.put, putA, putB, putC])
  refine tk 2 39 rfl (by kernel_rfl) (fun _ _ _ h => h) rfl (fun _ hS => by skip; go_simp; with_reducible rfl) hHeld ?_
  (try simp only [Act.put, putA, putB, putC])
  refine tk 3 40 rfl (by kernel_rfl) (fun _ _ _ h => h) rfl (fun _ hS => by have e1 := hS.2.1; go_simp; with_reducible rfl) hHeld ?_
  (try simp only [Act.put, putA, putB, putC])
  refine tk 4 41 rfl (by kernel_rfl) (fun _ _ _ h => h) rfl (fun _ hS => by skip; go_simp; with_reducible rfl) hHeld ?_
  (try simp only [Act.put, putA, putB, putC])
  refine tk 5 42 rfl (by kernel_rfl) (fun _ _ _ h => h) rfl (fun _ hS => by skip; go_simp; with_reducible rfl) hHeld ?_
  (try simp only [Act.put, putA, putB, putC])
  refine tk 6 43 rfl (by kernel_rfl) (fun _ _ _ h => h) rfl (fun _ hS => by have e1 := cell_of_row _ _ 10 _ _ _ hS.2.2.1; go_simp; with_reducible rfl) hHeld ?_
  (try simp only [Act.put, putA, putB, putC])
  refine tk 7 44 rfl (by kernel_rfl) (fun _ _ _ h => h) rfl (fun _ hS => by skip; go_simp; with_reducible rfl) hHeld ?_
  (try simp only [Act.put, putA, putB, putC])
  cases hc : b.what.contains K.data.toList with
  | true =>
    have HCN := hide hc
    clear hc
    refine tk 8 45 rfl (by kernel_rfl) (fun _ _ _ h => h) rfl (fun _ hS => by have e1 := hS.2.2.2.look K; rw [HCN.out] at e1; simp only [if_true] at e1; go_simp; with_reducible rfl) hHeld ?_
    (try simp only [Act.put, putA, putB, putC])
    refine tk 9 46 rfl (by kernel_rfl) (fun _ _ _ h => h) rfl (fun _ hS => by skip; go_simp; with_reducible rfl) hHeld ?_
    (try simp only [Act.put, putA, putB, putC])
    refine wpAnyT_done (by kernel_rfl) ?_
    simp only [List.drop_succ_cons, List.drop_zero]
    have HX := hide (EndsB.mk_bad (bb := bb) (mb := mb) (B := B) (HTH.out.trans (once_twice (by rw [← HKW.out]; exact HCN.out))) hj HAd.out)
    have HKX := hide (((Kept.of_below HF.out.below : Kept (fun k => k = pb ∨ k = bb ∨ k = mb) W V).trans HKd.out).mono (G := fun k => k = pb ∨ k = bb ∨ k = mb ∨ B ≤ k) (fun k hk => by rcases hk with h | h | h <;> simp [h]))
    clear hHeld
    go_wp2_with fail
    ((with_reducible refine (check_no _ _ _).mono ?_); rintro e w'' ⟨rfl, rfl⟩)
    go_wp2_with fail
    exact ⟨rfl, HX.out, HKX.out⟩
  | false =>
    have HCN := hide hc
    clear hc
    refine tk 8 45 rfl (by kernel_rfl) (fun _ _ _ h => h) rfl (fun _ hS => by have e1 := hS.2.2.2.look K; rw [HCN.out] at e1; simp only [if_false, Bool.false_eq_true] at e1; go_simp; with_reducible rfl) hHeld ?_
    (try simp only [Act.put, putA, putB, putC])
    refine tk 9 46 rfl (by kernel_rfl) (fun _ _ _ h => h) rfl (fun _ hS => by skip; go_simp; with_reducible rfl) hHeld ?_
    (try simp only [Act.put, putA, putB, putC])
    refine wpAnyT_done (by kernel_rfl) ?_
    simp only [List.drop_succ_cons, List.drop_zero]
    obtain ⟨hp0, hp1, hrow, hseen⟩ := hHeld
    go_wp2_with fail
    ((with_reducible refine (check_yes _ _ _).mono ?_); rintro e w'' ⟨rfl, rfl⟩)
    have hlk := hseen.look K
    rw [HCN.out] at hlk
    simp only [if_false, Bool.false_eq_true] at hlk
    obtain ⟨o, hput, hsn⟩ := hseen.put K HCN.out
    have hc10 : w''.cell? ⟨bb, 10, none⟩ = some (.map (some mb)) := cell_of_row _ _ 10 _ _ _ hrow
    have hp0' : (setBlock w'' mb o).cell? ⟨W.heap.size, 0, none⟩ = _ := (World.cell?_of_block (a := ⟨W.heap.size, 0, none⟩) (setBlock_far w'' mb W.heap.size o (by omega))).trans hp0
    have hp1' : (setBlock w'' mb o).cell? ⟨W.heap.size + 1, 0, none⟩ = _ := (World.cell?_of_block (a := ⟨W.heap.size + 1, 0, none⟩) (setBlock_far w'' mb (W.heap.size + 1) o (by omega))).trans hp1
    have hzs := setBlock_size w'' mb o
    have HA3 := hide (HAd.out.blk hW1 hpW o)
    have HB3 : Hid (BSt pb bb mb B ⟨b.p, b.what ++ [K.data.toList]⟩ v4 v7 v8 v9 (setBlock w'' mb o)) := hide
      ⟨(setBlock_far w'' mb bb o l3).trans hrow, HBd.out.rows.keep (by rw [hzs]; exact Nat.le_refl _) (fun k hk _ => setBlock_far w'' mb k o (by omega)), hsn, l1, l2, l3, l4, l5, by rw [hzs]; exact HBd.out.low.2.2.2.2.2⟩
    have HC3 := hide (H0.out.to HA3.out)
    have HE3 := hide (HEd.out.keptB ((Kept.blk w'' mb o).below (B := 3) HEd.out.big (fun i hi => by omega)) (Nat.le_refl _))
    have HK3 := hide (HKd.out.trans ((Kept.blk w'' mb o).mono (G := fun k => k = pb ∨ k = bb ∨ k = mb) (fun k hk => .inr (.inr hk))))
    have e1 : (setBlock w'' mb o).cell? ⟨pb, 1, none⟩ = some (.int .i64 (j : Int)) := HA3.out.here
    have e2 := HA3.out.free
    have hw3 : pb < (setBlock w'' mb o).heap.size := by rw [hzs]; exact HCd.out.lt
    have hz3 : W.heap.size + 3 ≤ (setBlock w'' mb o).heap.size := by rw [hzs]; have := HKd.out.size; have := HF.out.size; omega
    have k1 : (j : Int) + 1 < 9223372036854775808 := by omega
    have k2 : -9223372036854775808 ≤ (j : Int) + 1 := by omega
    have HSN := hide hsn
    have HROW := hide hrow
    clear HAd HBd HCd HEd HKd hsn hzs hrow
    generalize setBlock w'' mb o = V3 at *
    generalize hz : (j : Int) = z at e1 k1 k2
    have HZ := hide hz
    clear hz
    go_wp2_with fail
    have HA4 := hide (HA3.out.goto hpW (j + 1))
    rw [show ((j + 1 : Nat) : Int) = z + 1 from by have := HZ.out; omega] at HA4
    have HK4 := hide (HK3.out.setCell (p := ⟨pb, 1, none⟩) (.inl (.inl rfl)) (.int .i64 (z + 1)))
    have hP4 : AtJ pb (j + 1) V3 (V3.setCell ⟨pb, 1, none⟩ (.int .i64 ((j + 1 : Nat) : Int))) := (AtJ.start HA3.out.here HA3.out.free).goto hw3 (j + 1)
    rw [show ((j + 1 : Nat) : Int) = z + 1 from by have := HZ.out; omega] at hP4
    have HB4 := hide (HB3.out.to hP4)
    have HC4 := hide (HC3.out.to hP4)
    have hq0 : (V3.setCell ⟨pb, 1, none⟩ (.int .i64 (z + 1))).cell? ⟨W.heap.size, 0, none⟩ = _ := (hP4.kept.cell (p := ⟨W.heap.size, 0, none⟩) (by show W.heap.size < _; omega) (by show ¬ W.heap.size = pb; omega)).trans hp0'
    have hq1 : (V3.setCell ⟨pb, 1, none⟩ (.int .i64 (z + 1))).cell? ⟨W.heap.size + 1, 0, none⟩ = _ := (hP4.kept.cell (p := ⟨W.heap.size + 1, 0, none⟩) (by show W.heap.size + 1 < _; omega) (by show ¬ W.heap.size + 1 = pb; omega)).trans hp1'
    have hz4 : W.heap.size + 3 ≤ (V3.setCell ⟨pb, 1, none⟩ (.int .i64 (z + 1))).heap.size := Nat.le_trans hz3 hP4.kept.size
    clear hP4 HA3 HB3 HC3 HK3 hp0 hp1 hp0' hp1' hz3 hw3 e1 e2 k1 k2 hput hlk hc10 HSN HROW HE3
    generalize V3.setCell ⟨pb, 1, none⟩ (.int .i64 (z + 1)) = V4 at *
    have hTAIL : Hid (ts.drop (j + 1) = (ts.drop j).tail) := hide (by simp)
    refine (clo1_any pb (j + 1) bb mb B W.heap.size (W.heap.size + 1) ts ⟨b.p, b.what ++ [K.data.toList]⟩ v4 v7 v8 v9 W0 V4 HC4 hts hjl hT HA4 HB4 hpW hW0 hq0 hq1 (by omega) (by omega)).mono ?_
    rintro e w5 ⟨hE5, hk5⟩
    have HK5 := hide (HK4.out.trans (hk5.mono (G := fun k => k = pb ∨ k = bb ∨ k = mb) (fun k hk => by rcases hk with h | h <;> simp [h])))
    have HKF := hide (fun (V' : World) (hk : Kept (fun k => k = pb ∨ k = bb ∨ k = mb) V V') => ((Kept.of_below HF.out.below : Kept (fun k => k = pb ∨ k = bb ∨ k = mb) W V).trans hk).mono (G := fun k => k = pb ∨ k = bb ∨ k = mb ∨ B ≤ k) (fun k hk => by rcases hk with h | h | h <;> simp [h]))
    rcases hE5.split with ⟨b5, j5, u4, u7, u8, u9, hr, hj5, hA, hB, rfl⟩ | ⟨n, jn, hr, hjn, hA, rfl⟩
    rotate_left
    · have HX := hide (EndsB.mk_bad (bb := bb) (mb := mb) (B := B) (HTH.out.trans (once_bad1 (x := semasP b.p) (by rw [← HKW.out]; exact HCN.out) (by rw [← hTAIL.out, ← HKW.out]; exact hr))) hjn hA)
      have HKX := hide (HKF.out _ HK5.out)
      clear hE5 hr hA hk5
      go_wp2_with fail
      exact ⟨rfl, HX.out, HKX.out⟩
    have hq0' : w5.cell? ⟨W.heap.size, 0, none⟩ = _ := (hk5.cell (p := ⟨W.heap.size, 0, none⟩) (by show W.heap.size < _; omega) (by show ¬ (W.heap.size = pb ∨ W.heap.size = bb); omega)).trans hq0
    have HA5 := hide hA
    have HB5 := hide hB
    have HR5 := hide hr
    have hp5 : pb < w5.heap.size := Nat.lt_of_lt_of_le HC4.out.lt hk5.size
    have HC5 : Hid (Cur pb ts j5 w5) := hide (H0.out.to HA5.out)
    clear hE5 hr hA hB hk5 hq0 hq1 hz4 HA4 HB4 HC4 HK4
    go_wp2_with fail
    refine (must_new pb j5 _ ts ⟨#[59]⟩ _ HC5 hts' hj5 (by decide) rfl).mono ?_
    rintro e w6 hE6
    rcases hE6.split with ⟨a6, j6, hr, hj6, hA, rfl⟩ | ⟨n, jn, hr, hjn, hA, rfl⟩
    rotate_left
    · have HX := hide (EndsB.mk_bad (bb := bb) (mb := mb) (B := B) (HTH.out.trans (once_bad2 (x := semasP b.p) (by rw [← HKW.out]; exact HCN.out) (by rw [← hTAIL.out, ← HKW.out]; exact HR5.out) hr)) hjn (HA5.out.trans hA))
      have HKX := hide (HKF.out _ (HK5.out.trans (hA.kept.mono (G := fun k => k = pb ∨ k = bb ∨ k = mb) (fun k hk => .inl hk))))
      clear hE6 hr hA
      go_wp2_with fail
      exact ⟨rfl, HX.out, HKX.out⟩
    have HX := hide (EndsB.mk_ok (HTH.out.trans (once_ok (x := semasP b.p) (by rw [← HKW.out]; exact HCN.out) (by rw [← hTAIL.out, ← HKW.out]; exact HR5.out) hr)) hj6 (HA5.out.trans hA) (HB5.out.to hA))
    have HKX := hide (HKF.out _ (HK5.out.trans (hA.kept.mono (G := fun k => k = pb ∨ k = bb ∨ k = mb) (fun k hk => .inl hk))))
    clear hE6 hr hA
    go_wp2_with fail
    go_end0
    exact ⟨HX.out, HKX.out⟩
set_option maxRecDepth 100000 in
set_option maxHeartbeats 4000000 in
theorem thg_bufs (pb i0 j bb mb B : Nat) (ts : List Tok) (b : BuildD) (v4 v7 v8 v9 : Value) (W0 W : World) (H0 : Hid (Cur pb ts i0 W0)) (hts : ts.length ≤ 1000000) (hj : j ≤ ts.length) (hT : Hid (TokOk ts)) (HA : Hid (AtJ pb j W0 W)) (HB : Hid (BSt pb bb mb B b v4 v7 v8 v9 W)) (hpW : pb < W0.heap.size) (hW0 : W0.heap.size ≤ bb) (hW1 : W0.heap.size ≤ mb) (hE : Hid (EnvP W)) (hpE : 3 ≤ pb)(hw : Hid ((hdT (ts.drop j)).text = [98, 117, 102, 115])) :
    Calls Tryz.prog 137 #[.pointer (some ⟨pb, 0, none⟩), .pointer (some ⟨bb, 0, none⟩)] W fun e W' => EndsB pb ts W0 bb mb B (thingP b (ts.drop j)) e W' ∧ Kept (fun k => k = pb ∨ k = bb ∨ k = mb ∨ B ≤ k) W W' := by
  have hts' : ts.length ≤ 1099511627776 := by omega
  have H := hide (H0.out.to HA.out)
  obtain ⟨l1, l2, l3, l4, l5, l6⟩ := HB.out.low
  have hgd := hide hT.out.good
  have hpW' : pb < W.heap.size := by omega
  have ft1 := field_tok1
  have hmm := @run_makeMap Tryz.prog
  have hmf : ∀ (fn : Fn) (first cap : Array Value) (w : World), (Instr.makeFunc fn first cap).run Tryz.prog w = .ok (.func fn first cap) w := fun _ _ _ _ => rfl
  have hi1 := fun (v : Value) => run_insF ((W.alloc (Obj.cells #[Value.pointer (some ⟨pb, 0, none⟩)] 85)).alloc (Obj.cells #[Value.pointer (some ⟨bb, 0, none⟩)] 201)) (W.heap.size + 1 + 1) (by simp) #[] 0 ⟨#[115, 101, 109, 97, 115]⟩ v rfl
  have hi2 := fun (v1 v : Value) => run_insF ((W.alloc (Obj.cells #[Value.pointer (some ⟨pb, 0, none⟩)] 85)).alloc (Obj.cells #[Value.pointer (some ⟨bb, 0, none⟩)] 201)) (W.heap.size + 1 + 1) (by simp) #[⟨.string ⟨#[115, 101, 109, 97, 115]⟩, v1, 0⟩] 1 ⟨#[98, 117, 102, 115]⟩ v (by kernel_rfl)
  have hi3 := fun (v1 v2 v : Value) => run_insF ((W.alloc (Obj.cells #[Value.pointer (some ⟨pb, 0, none⟩)] 85)).alloc (Obj.cells #[Value.pointer (some ⟨bb, 0, none⟩)] 201)) (W.heap.size + 1 + 1) (by simp) #[⟨.string ⟨#[115, 101, 109, 97, 115]⟩, v1, 0⟩, ⟨.string ⟨#[98, 117, 102, 115]⟩, v2, 1⟩] 2 ⟨#[101, 118, 101, 110, 116, 115]⟩ v (by kernel_rfl)
  have hi4 := fun (v1 v2 v3 v : Value) => run_insF ((W.alloc (Obj.cells #[Value.pointer (some ⟨pb, 0, none⟩)] 85)).alloc (Obj.cells #[Value.pointer (some ⟨bb, 0, none⟩)] 201)) (W.heap.size + 1 + 1) (by simp) #[⟨.string ⟨#[115, 101, 109, 97, 115]⟩, v1, 0⟩, ⟨.string ⟨#[98, 117, 102, 115]⟩, v2, 1⟩, ⟨.string ⟨#[101, 118, 101, 110, 116, 115]⟩, v3, 2⟩] 3 ⟨#[98, 111, 97, 114, 100, 115]⟩ v (by kernel_rfl)
  go_enter Tryz.func137, Tryz.ntmps137
  go_wp2_with fail
  change Calls _ _ _ (thgW W pb bb) _
  have HF := hide (thgW_facts W pb bb)
  generalize thgW W pb bb = V at *
  clear hi1 hi2 hi3 hi4 hmm hmf
  have HAV := hide (HA.out.below hpW HF.out.below)
  have HBV := hide (HB.out.below HF.out.below)
  have HCV := hide (H.out.below HF.out.below)
  have HEV := hide (hE.out.below HF.out.below)
  have HC := hide (here_any pb j ts V HCV hts' hj)
  generalize ht : hdT (ts.drop j) = t at HC hw
  have HT0 := hide ht
  clear ht
  obtain ⟨κ, tx, ta⟩ := t
  unfold tokVal at HC
  dsimp only at HC hw
  generalize (κ : Int) = κz at HC
  generalize (ta : Int) = taz at HC
  refine (HC.out).mono ?_
  rintro e w1 ⟨rfl, hb⟩
  have HK1 := hide ((Kept.of_below hb : Kept (fun k => k = pb ∨ k = bb ∨ k = mb) V w1))
  have HA1 := hide (HAV.out.below hpW hb)
  have HB1 := hide (HBV.out.below hb)
  have HC1 := hide (HCV.out.below hb)
  have HE1 := hide (HEV.out.below hb)
  have HM1 := hide ((hb.block _ (by have := HF.out.size; omega)).trans HF.out.map)
  clear hb HC HAV HBV HCV HEV
  have hjl : j < ts.length := by
    rcases Nat.lt_or_ge j ts.length with h | h
    · exact h
    · have h1 := hw.out
      rw [hdT_end ts j h] at HT0
      have h2 := congrArg Tok.text HT0.out
      simp only at h2
      rw [← h2] at h1
      cases h1
  have HTH := hide (thing_bufs hT.out j b (by rw [HT0.out]; exact hw.out))
  have hFF : ∀ k, W.heap.size ≤ k → ¬ (k = pb ∨ k = bb ∨ k = mb) := fun k hk => by omega
  have HFF := hide hFF
  clear hFF
  generalize hKK : (⟨tx.toArray⟩ : ByteArray) = K at *
  have HKW : Hid (K.data.toList = [98, 117, 102, 115]) := hide (by rw [← hKK]; exact hw.out)
  clear hKK hw HT0
  have hl := run_lookF HM1.out K (cloV 159 W) (by rw [HKW.out]; rfl)
  unfold cloV at hl
  have hne := neq_fun
  go_wp2_with fail
  clear hne
  obtain ⟨hp0, hp1, hz1⟩ := HF.out.keep HK1.out HFF.out
  refine wp_region_tail (S := fun w' => w'.cell? ⟨W.heap.size, 0, none⟩ = some (.pointer (some ⟨pb, 0, none⟩)) ∧ w'.cell? ⟨W.heap.size + 1, 0, none⟩ = some (.pointer (some ⟨bb, 0, none⟩)) ∧ w'.heap[bb]? = some (bldRow b.p mb v4 v7 v8 v9) ∧ Seen w' mb b.what) 10 (by kernel_rfl) (by kernel_rfl) ⟨hp0, hp1, HB1.out.row, HB1.out.seen⟩ (fun hHeld => ?_)
  have HKd := hide (HK1.out.drew)
  have HAd := hide (HA1.out.drew)
  have HBd := hide (HB1.out.bare (w' := w1.drew) rfl)
  have HCd := hide (HC1.out.to (AtJ.start HC1.out.now HC1.out.free).drew)
  have HEd := hide (HE1.out.below ((Below.refl w1.heap.size w1).drew))
  clear HK1 HA1 HB1 HC1 HE1 HM1 hl hp0 hp1 hz1
  generalize w1.drew = V2 at *
  refine tk 0 37 rfl (by kernel_rfl) (fun _ _ _ h => h) rfl (fun _ hS => by have e1 := hS.1; go_simp; with_reducible rfl) hHeld ?_
  (try simp only [Act.put, putA, putB, putC])
  refine tk 1 38 rfl (by kernel_rfl) (fun _ _ _ h => h) rfl (fun _ hS => by skip; go_simp; with_reducible rfl) hHeld ?_
  (try simp only [Act.put, putA, putB, putC])
  refine tk 2 39 rfl (by kernel_rfl) (fun _ _ _ h => h) rfl (fun _ hS => by skip; go_simp; with_reducible rfl) hHeld ?_
  (try simp only [Act.put, putA, putB, putC])
  refine tk 3 40 rfl (by kernel_rfl) (fun _ _ _ h => h) rfl (fun _ hS => by have e1 := hS.2.1; go_simp; with_reducible rfl) hHeld ?_
  (try simp only [Act.put, putA, putB, putC])
  refine tk 4 41 rfl (by kernel_rfl) (fun _ _ _ h => h) rfl (fun _ hS => by skip; go_simp; with_reducible rfl) hHeld ?_
  (try simp only [Act.put, putA, putB, putC])
  refine tk 5 42 rfl (by kernel_rfl) (fun _ _ _ h => h) rfl (fun _ hS => by skip; go_simp; with_reducible rfl) hHeld ?_
  (try simp only [Act.put, putA, putB, putC])
  refine tk 6 43 rfl (by kernel_rfl) (fun _ _ _ h => h) rfl (fun _ hS => by have e1 := cell_of_row _ _ 10 _ _ _ hS.2.2.1; go_simp; with_reducible rfl) hHeld ?_
  (try simp only [Act.put, putA, putB, putC])
  refine tk 7 44 rfl (by kernel_rfl) (fun _ _ _ h => h) rfl (fun _ hS => by skip; go_simp; with_reducible rfl) hHeld ?_
  (try simp only [Act.put, putA, putB, putC])
  cases hc : b.what.contains K.data.toList with
  | true =>
    have HCN := hide hc
    clear hc
    refine tk 8 45 rfl (by kernel_rfl) (fun _ _ _ h => h) rfl (fun _ hS => by have e1 := hS.2.2.2.look K; rw [HCN.out] at e1; simp only [if_true] at e1; go_simp; with_reducible rfl) hHeld ?_
    (try simp only [Act.put, putA, putB, putC])
    refine tk 9 46 rfl (by kernel_rfl) (fun _ _ _ h => h) rfl (fun _ hS => by skip; go_simp; with_reducible rfl) hHeld ?_
    (try simp only [Act.put, putA, putB, putC])
    refine wpAnyT_done (by kernel_rfl) ?_
    simp only [List.drop_succ_cons, List.drop_zero]
    have HX := hide (EndsB.mk_bad (bb := bb) (mb := mb) (B := B) (HTH.out.trans (once_twice (by rw [← HKW.out]; exact HCN.out))) hj HAd.out)
    have HKX := hide (((Kept.of_below HF.out.below : Kept (fun k => k = pb ∨ k = bb ∨ k = mb) W V).trans HKd.out).mono (G := fun k => k = pb ∨ k = bb ∨ k = mb ∨ B ≤ k) (fun k hk => by rcases hk with h | h | h <;> simp [h]))
    clear hHeld
    go_wp2_with fail
    ((with_reducible refine (check_no _ _ _).mono ?_); rintro e w'' ⟨rfl, rfl⟩)
    go_wp2_with fail
    exact ⟨rfl, HX.out, HKX.out⟩
  | false =>
    have HCN := hide hc
    clear hc
    refine tk 8 45 rfl (by kernel_rfl) (fun _ _ _ h => h) rfl (fun _ hS => by have e1 := hS.2.2.2.look K; rw [HCN.out] at e1; simp only [if_false, Bool.false_eq_true] at e1; go_simp; with_reducible rfl) hHeld ?_
    (try simp only [Act.put, putA, putB, putC])
    refine tk 9 46 rfl (by kernel_rfl) (fun _ _ _ h => h) rfl (fun _ hS => by skip; go_simp; with_reducible rfl) hHeld ?_
    (try simp only [Act.put, putA, putB, putC])
    refine wpAnyT_done (by kernel_rfl) ?_
    simp only [List.drop_succ_cons, List.drop_zero]
    obtain ⟨hp0, hp1, hrow, hseen⟩ := hHeld
    go_wp2_with fail
    ((with_reducible refine (check_yes _ _ _).mono ?_); rintro e w'' ⟨rfl, rfl⟩)
    have hlk := hseen.look K
    rw [HCN.out] at hlk
    simp only [if_false, Bool.false_eq_true] at hlk
    obtain ⟨o, hput, hsn⟩ := hseen.put K HCN.out
    have hc10 : w''.cell? ⟨bb, 10, none⟩ = some (.map (some mb)) := cell_of_row _ _ 10 _ _ _ hrow
    have hp0' : (setBlock w'' mb o).cell? ⟨W.heap.size, 0, none⟩ = _ := (World.cell?_of_block (a := ⟨W.heap.size, 0, none⟩) (setBlock_far w'' mb W.heap.size o (by omega))).trans hp0
    have hp1' : (setBlock w'' mb o).cell? ⟨W.heap.size + 1, 0, none⟩ = _ := (World.cell?_of_block (a := ⟨W.heap.size + 1, 0, none⟩) (setBlock_far w'' mb (W.heap.size + 1) o (by omega))).trans hp1
    have hzs := setBlock_size w'' mb o
    have HA3 := hide (HAd.out.blk hW1 hpW o)
    have HB3 : Hid (BSt pb bb mb B ⟨b.p, b.what ++ [K.data.toList]⟩ v4 v7 v8 v9 (setBlock w'' mb o)) := hide
      ⟨(setBlock_far w'' mb bb o l3).trans hrow, HBd.out.rows.keep (by rw [hzs]; exact Nat.le_refl _) (fun k hk _ => setBlock_far w'' mb k o (by omega)), hsn, l1, l2, l3, l4, l5, by rw [hzs]; exact HBd.out.low.2.2.2.2.2⟩
    have HC3 := hide (H0.out.to HA3.out)
    have HE3 := hide (HEd.out.keptB ((Kept.blk w'' mb o).below (B := 3) HEd.out.big (fun i hi => by omega)) (Nat.le_refl _))
    have HK3 := hide (HKd.out.trans ((Kept.blk w'' mb o).mono (G := fun k => k = pb ∨ k = bb ∨ k = mb) (fun k hk => .inr (.inr hk))))
    have e1 : (setBlock w'' mb o).cell? ⟨pb, 1, none⟩ = some (.int .i64 (j : Int)) := HA3.out.here
    have e2 := HA3.out.free
    have hw3 : pb < (setBlock w'' mb o).heap.size := by rw [hzs]; exact HCd.out.lt
    have hz3 : W.heap.size + 3 ≤ (setBlock w'' mb o).heap.size := by rw [hzs]; have := HKd.out.size; have := HF.out.size; omega
    have k1 : (j : Int) + 1 < 9223372036854775808 := by omega
    have k2 : -9223372036854775808 ≤ (j : Int) + 1 := by omega
    have HSN := hide hsn
    have HROW := hide hrow
    clear HAd HBd HCd HEd HKd hsn hzs hrow
    generalize setBlock w'' mb o = V3 at *
    generalize hz : (j : Int) = z at e1 k1 k2
    have HZ := hide hz
    clear hz
    go_wp2_with fail
    have HA4 := hide (HA3.out.goto hpW (j + 1))
    rw [show ((j + 1 : Nat) : Int) = z + 1 from by have := HZ.out; omega] at HA4
    have HK4 := hide (HK3.out.setCell (p := ⟨pb, 1, none⟩) (.inl (.inl rfl)) (.int .i64 (z + 1)))
    have hP4 : AtJ pb (j + 1) V3 (V3.setCell ⟨pb, 1, none⟩ (.int .i64 ((j + 1 : Nat) : Int))) := (AtJ.start HA3.out.here HA3.out.free).goto hw3 (j + 1)
    rw [show ((j + 1 : Nat) : Int) = z + 1 from by have := HZ.out; omega] at hP4
    have HB4 := hide (HB3.out.to hP4)
    have HC4 := hide (HC3.out.to hP4)
    have hq0 : (V3.setCell ⟨pb, 1, none⟩ (.int .i64 (z + 1))).cell? ⟨W.heap.size, 0, none⟩ = _ := (hP4.kept.cell (p := ⟨W.heap.size, 0, none⟩) (by show W.heap.size < _; omega) (by show ¬ W.heap.size = pb; omega)).trans hp0'
    have hq1 : (V3.setCell ⟨pb, 1, none⟩ (.int .i64 (z + 1))).cell? ⟨W.heap.size + 1, 0, none⟩ = _ := (hP4.kept.cell (p := ⟨W.heap.size + 1, 0, none⟩) (by show W.heap.size + 1 < _; omega) (by show ¬ W.heap.size + 1 = pb; omega)).trans hp1'
    have hz4 : W.heap.size + 3 ≤ (V3.setCell ⟨pb, 1, none⟩ (.int .i64 (z + 1))).heap.size := Nat.le_trans hz3 hP4.kept.size
    clear hP4 HA3 HB3 HC3 HK3 hp0 hp1 hp0' hp1' hz3 hw3 e1 e2 k1 k2 hput hlk hc10 HSN HROW HE3
    generalize V3.setCell ⟨pb, 1, none⟩ (.int .i64 (z + 1)) = V4 at *
    have hTAIL : Hid (ts.drop (j + 1) = (ts.drop j).tail) := hide (by simp)
    refine (clo2_any pb (j + 1) bb mb B W.heap.size (W.heap.size + 1) ts ⟨b.p, b.what ++ [K.data.toList]⟩ v4 v7 v8 v9 W0 V4 HC4 hts hjl hT HA4 HB4 hpW hW0 hq0 hq1 (by omega) (by omega)).mono ?_
    rintro e w5 ⟨hE5, hk5⟩
    have HK5 := hide (HK4.out.trans (hk5.mono (G := fun k => k = pb ∨ k = bb ∨ k = mb) (fun k hk => by rcases hk with h | h <;> simp [h])))
    have HKF := hide (fun (V' : World) (hk : Kept (fun k => k = pb ∨ k = bb ∨ k = mb) V V') => ((Kept.of_below HF.out.below : Kept (fun k => k = pb ∨ k = bb ∨ k = mb) W V).trans hk).mono (G := fun k => k = pb ∨ k = bb ∨ k = mb ∨ B ≤ k) (fun k hk => by rcases hk with h | h | h <;> simp [h]))
    rcases hE5.split with ⟨b5, j5, u4, u7, u8, u9, hr, hj5, hA, hB, rfl⟩ | ⟨n, jn, hr, hjn, hA, rfl⟩
    rotate_left
    · have HX := hide (EndsB.mk_bad (bb := bb) (mb := mb) (B := B) (HTH.out.trans (once_bad1 (x := bufsP b.p) (by rw [← HKW.out]; exact HCN.out) (by rw [← hTAIL.out, ← HKW.out]; exact hr))) hjn hA)
      have HKX := hide (HKF.out _ HK5.out)
      clear hE5 hr hA hk5
      go_wp2_with fail
      exact ⟨rfl, HX.out, HKX.out⟩
    have hq0' : w5.cell? ⟨W.heap.size, 0, none⟩ = _ := (hk5.cell (p := ⟨W.heap.size, 0, none⟩) (by show W.heap.size < _; omega) (by show ¬ (W.heap.size = pb ∨ W.heap.size = bb); omega)).trans hq0
    have HA5 := hide hA
    have HB5 := hide hB
    have HR5 := hide hr
    have hp5 : pb < w5.heap.size := Nat.lt_of_lt_of_le HC4.out.lt hk5.size
    have HC5 : Hid (Cur pb ts j5 w5) := hide (H0.out.to HA5.out)
    clear hE5 hr hA hB hk5 hq0 hq1 hz4 HA4 HB4 HC4 HK4
    go_wp2_with fail
    refine (must_new pb j5 _ ts ⟨#[59]⟩ _ HC5 hts' hj5 (by decide) rfl).mono ?_
    rintro e w6 hE6
    rcases hE6.split with ⟨a6, j6, hr, hj6, hA, rfl⟩ | ⟨n, jn, hr, hjn, hA, rfl⟩
    rotate_left
    · have HX := hide (EndsB.mk_bad (bb := bb) (mb := mb) (B := B) (HTH.out.trans (once_bad2 (x := bufsP b.p) (by rw [← HKW.out]; exact HCN.out) (by rw [← hTAIL.out, ← HKW.out]; exact HR5.out) hr)) hjn (HA5.out.trans hA))
      have HKX := hide (HKF.out _ (HK5.out.trans (hA.kept.mono (G := fun k => k = pb ∨ k = bb ∨ k = mb) (fun k hk => .inl hk))))
      clear hE6 hr hA
      go_wp2_with fail
      exact ⟨rfl, HX.out, HKX.out⟩
    have HX := hide (EndsB.mk_ok (HTH.out.trans (once_ok (x := bufsP b.p) (by rw [← HKW.out]; exact HCN.out) (by rw [← hTAIL.out, ← HKW.out]; exact HR5.out) hr)) hj6 (HA5.out.trans hA) (HB5.out.to hA))
    have HKX := hide (HKF.out _ (HK5.out.trans (hA.kept.mono (G := fun k => k = pb ∨ k = bb ∨ k = mb) (fun k hk => .inl hk))))
    clear hE6 hr hA
    go_wp2_with fail
    go_end0
    exact ⟨HX.out, HKX.out⟩
set_option maxRecDepth 100000 in
set_option maxHeartbeats 4000000 in
theorem thg_events (pb i0 j bb mb B : Nat) (ts : List Tok) (b : BuildD) (v4 v7 v8 v9 : Value) (W0 W : World) (H0 : Hid (Cur pb ts i0 W0)) (hts : ts.length ≤ 1000000) (hj : j ≤ ts.length) (hT : Hid (TokOk ts)) (HA : Hid (AtJ pb j W0 W)) (HB : Hid (BSt pb bb mb B b v4 v7 v8 v9 W)) (hpW : pb < W0.heap.size) (hW0 : W0.heap.size ≤ bb) (hW1 : W0.heap.size ≤ mb) (hE : Hid (EnvP W)) (hpE : 3 ≤ pb)(hw : Hid ((hdT (ts.drop j)).text = [101, 118, 101, 110, 116, 115])) :
    Calls Tryz.prog 137 #[.pointer (some ⟨pb, 0, none⟩), .pointer (some ⟨bb, 0, none⟩)] W fun e W' => EndsB pb ts W0 bb mb B (thingP b (ts.drop j)) e W' ∧ Kept (fun k => k = pb ∨ k = bb ∨ k = mb ∨ B ≤ k) W W' := by
  have hts' : ts.length ≤ 1099511627776 := by omega
  have H := hide (H0.out.to HA.out)
  obtain ⟨l1, l2, l3, l4, l5, l6⟩ := HB.out.low
  have hgd := hide hT.out.good
  have hpW' : pb < W.heap.size := by omega
  have ft1 := field_tok1
  have hmm := @run_makeMap Tryz.prog
  have hmf : ∀ (fn : Fn) (first cap : Array Value) (w : World), (Instr.makeFunc fn first cap).run Tryz.prog w = .ok (.func fn first cap) w := fun _ _ _ _ => rfl
  have hi1 := fun (v : Value) => run_insF ((W.alloc (Obj.cells #[Value.pointer (some ⟨pb, 0, none⟩)] 85)).alloc (Obj.cells #[Value.pointer (some ⟨bb, 0, none⟩)] 201)) (W.heap.size + 1 + 1) (by simp) #[] 0 ⟨#[115, 101, 109, 97, 115]⟩ v rfl
  have hi2 := fun (v1 v : Value) => run_insF ((W.alloc (Obj.cells #[Value.pointer (some ⟨pb, 0, none⟩)] 85)).alloc (Obj.cells #[Value.pointer (some ⟨bb, 0, none⟩)] 201)) (W.heap.size + 1 + 1) (by simp) #[⟨.string ⟨#[115, 101, 109, 97, 115]⟩, v1, 0⟩] 1 ⟨#[98, 117, 102, 115]⟩ v (by kernel_rfl)
  have hi3 := fun (v1 v2 v : Value) => run_insF ((W.alloc (Obj.cells #[Value.pointer (some ⟨pb, 0, none⟩)] 85)).alloc (Obj.cells #[Value.pointer (some ⟨bb, 0, none⟩)] 201)) (W.heap.size + 1 + 1) (by simp) #[⟨.string ⟨#[115, 101, 109, 97, 115]⟩, v1, 0⟩, ⟨.string ⟨#[98, 117, 102, 115]⟩, v2, 1⟩] 2 ⟨#[101, 118, 101, 110, 116, 115]⟩ v (by kernel_rfl)
  have hi4 := fun (v1 v2 v3 v : Value) => run_insF ((W.alloc (Obj.cells #[Value.pointer (some ⟨pb, 0, none⟩)] 85)).alloc (Obj.cells #[Value.pointer (some ⟨bb, 0, none⟩)] 201)) (W.heap.size + 1 + 1) (by simp) #[⟨.string ⟨#[115, 101, 109, 97, 115]⟩, v1, 0⟩, ⟨.string ⟨#[98, 117, 102, 115]⟩, v2, 1⟩, ⟨.string ⟨#[101, 118, 101, 110, 116, 115]⟩, v3, 2⟩] 3 ⟨#[98, 111, 97, 114, 100, 115]⟩ v (by kernel_rfl)
  go_enter Tryz.func137, Tryz.ntmps137
  go_wp2_with fail
  change Calls _ _ _ (thgW W pb bb) _
  have HF := hide (thgW_facts W pb bb)
  generalize thgW W pb bb = V at *
  clear hi1 hi2 hi3 hi4 hmm hmf
  have HAV := hide (HA.out.below hpW HF.out.below)
  have HBV := hide (HB.out.below HF.out.below)
  have HCV := hide (H.out.below HF.out.below)
  have HEV := hide (hE.out.below HF.out.below)
  have HC := hide (here_any pb j ts V HCV hts' hj)
  generalize ht : hdT (ts.drop j) = t at HC hw
  have HT0 := hide ht
  clear ht
  obtain ⟨κ, tx, ta⟩ := t
  unfold tokVal at HC
  dsimp only at HC hw
  generalize (κ : Int) = κz at HC
  generalize (ta : Int) = taz at HC
  refine (HC.out).mono ?_
  rintro e w1 ⟨rfl, hb⟩
  have HK1 := hide ((Kept.of_below hb : Kept (fun k => k = pb ∨ k = bb ∨ k = mb) V w1))
  have HA1 := hide (HAV.out.below hpW hb)
  have HB1 := hide (HBV.out.below hb)
  have HC1 := hide (HCV.out.below hb)
  have HE1 := hide (HEV.out.below hb)
  have HM1 := hide ((hb.block _ (by have := HF.out.size; omega)).trans HF.out.map)
  clear hb HC HAV HBV HCV HEV
  have hjl : j < ts.length := by
    rcases Nat.lt_or_ge j ts.length with h | h
    · exact h
    · have h1 := hw.out
      rw [hdT_end ts j h] at HT0
      have h2 := congrArg Tok.text HT0.out
      simp only at h2
      rw [← h2] at h1
      cases h1
  have HTH := hide (thing_events hT.out j b (by rw [HT0.out]; exact hw.out))
  have hFF : ∀ k, W.heap.size ≤ k → ¬ (k = pb ∨ k = bb ∨ k = mb) := fun k hk => by omega
  have HFF := hide hFF
  clear hFF
  generalize hKK : (⟨tx.toArray⟩ : ByteArray) = K at *
  have HKW : Hid (K.data.toList = [101, 118, 101, 110, 116, 115]) := hide (by rw [← hKK]; exact hw.out)
  clear hKK hw HT0
  have hl := run_lookF HM1.out K (cloV 160 W) (by rw [HKW.out]; rfl)
  unfold cloV at hl
  have hne := neq_fun
  go_wp2_with fail
  clear hne
  obtain ⟨hp0, hp1, hz1⟩ := HF.out.keep HK1.out HFF.out
  refine wp_region_tail (S := fun w' => w'.cell? ⟨W.heap.size, 0, none⟩ = some (.pointer (some ⟨pb, 0, none⟩)) ∧ w'.cell? ⟨W.heap.size + 1, 0, none⟩ = some (.pointer (some ⟨bb, 0, none⟩)) ∧ w'.heap[bb]? = some (bldRow b.p mb v4 v7 v8 v9) ∧ Seen w' mb b.what) 10 (by kernel_rfl) (by kernel_rfl) ⟨hp0, hp1, HB1.out.row, HB1.out.seen⟩ (fun hHeld => ?_)
  have HKd := hide (HK1.out.drew)
  have HAd := hide (HA1.out.drew)
  have HBd := hide (HB1.out.bare (w' := w1.drew) rfl)
  have HCd := hide (HC1.out.to (AtJ.start HC1.out.now HC1.out.free).drew)
  have HEd := hide (HE1.out.below ((Below.refl w1.heap.size w1).drew))
  clear HK1 HA1 HB1 HC1 HE1 HM1 hl hp0 hp1 hz1
  generalize w1.drew = V2 at *
  refine tk 0 37 rfl (by kernel_rfl) (fun _ _ _ h => h) rfl (fun _ hS => by have e1 := hS.1; go_simp; with_reducible rfl) hHeld ?_
  (try simp only [Act.put, putA, putB, putC])
  refine tk 1 38 rfl (by kernel_rfl) (fun _ _ _ h => h) rfl (fun _ hS => by skip; go_simp; with_reducible rfl) hHeld ?_
  (try simp only [Act.put, putA, putB, putC])
  refine tk 2 39 rfl (by kernel_rfl) (fun _ _ _ h => h) rfl (fun _ hS => by skip; go_simp; with_reducible rfl) hHeld ?_
  (try simp only [Act.put, putA, putB, putC])
  refine tk 3 40 rfl (by kernel_rfl) (fun _ _ _ h => h) rfl (fun _ hS => by have e1 := hS.2.1; go_simp; with_reducible rfl) hHeld ?_
  (try simp only [Act.put, putA, putB, putC])
  refine tk 4 41 rfl (by kernel_rfl) (fun _ _ _ h => h) rfl (fun _ hS => by skip; go_simp; with_reducible rfl) hHeld ?_
  (try simp only [Act.put, putA, putB, putC])
  refine tk 5 42 rfl (by kernel_rfl) (fun _ _ _ h => h) rfl (fun _ hS => by skip; go_simp; with_reducible rfl) hHeld ?_
  (try simp only [Act.put, putA, putB, putC])
  refine tk 6 43 rfl (by kernel_rfl) (fun _ _ _ h => h) rfl (fun _ hS => by have e1 := cell_of_row _ _ 10 _ _ _ hS.2.2.1; go_simp; with_reducible rfl) hHeld ?_
  (try simp only [Act.put, putA, putB, putC])
  refine tk 7 44 rfl (by kernel_rfl) (fun _ _ _ h => h) rfl (fun _ hS => by skip; go_simp; with_reducible rfl) hHeld ?_
  (try simp only [Act.put, putA, putB, putC])
  cases hc : b.what.contains K.data.toList with
  | true =>
    have HCN := hide hc
    clear hc
    refine tk 8 45 rfl (by kernel_rfl) (fun _ _ _ h => h) rfl (fun _ hS => by have e1 := hS.2.2.2.look K; rw [HCN.out] at e1; simp only [if_true] at e1; go_simp; with_reducible rfl) hHeld ?_
    (try simp only [Act.put, putA, putB, putC])
    refine tk 9 46 rfl (by kernel_rfl) (fun _ _ _ h => h) rfl (fun _ hS => by skip; go_simp; with_reducible rfl) hHeld ?_
    (try simp only [Act.put, putA, putB, putC])
    refine wpAnyT_done (by kernel_rfl) ?_
    simp only [List.drop_succ_cons, List.drop_zero]
    have HX := hide (EndsB.mk_bad (bb := bb) (mb := mb) (B := B) (HTH.out.trans (once_twice (by rw [← HKW.out]; exact HCN.out))) hj HAd.out)
    have HKX := hide (((Kept.of_below HF.out.below : Kept (fun k => k = pb ∨ k = bb ∨ k = mb) W V).trans HKd.out).mono (G := fun k => k = pb ∨ k = bb ∨ k = mb ∨ B ≤ k) (fun k hk => by rcases hk with h | h | h <;> simp [h]))
    clear hHeld
    go_wp2_with fail
    ((with_reducible refine (check_no _ _ _).mono ?_); rintro e w'' ⟨rfl, rfl⟩)
    go_wp2_with fail
    exact ⟨rfl, HX.out, HKX.out⟩
  | false =>
    have HCN := hide hc
    clear hc
    refine tk 8 45 rfl (by kernel_rfl) (fun _ _ _ h => h) rfl (fun _ hS => by have e1 := hS.2.2.2.look K; rw [HCN.out] at e1; simp only [if_false, Bool.false_eq_true] at e1; go_simp; with_reducible rfl) hHeld ?_
    (try simp only [Act.put, putA, putB, putC])
    refine tk 9 46 rfl (by kernel_rfl) (fun _ _ _ h => h) rfl (fun _ hS => by skip; go_simp; with_reducible rfl) hHeld ?_
    (try simp only [Act.put, putA, putB, putC])
    refine wpAnyT_done (by kernel_rfl) ?_
    simp only [List.drop_succ_cons, List.drop_zero]
    obtain ⟨hp0, hp1, hrow, hseen⟩ := hHeld
    go_wp2_with fail
    ((with_reducible refine (check_yes _ _ _).mono ?_); rintro e w'' ⟨rfl, rfl⟩)
    have hlk := hseen.look K
    rw [HCN.out] at hlk
    simp only [if_false, Bool.false_eq_true] at hlk
    obtain ⟨o, hput, hsn⟩ := hseen.put K HCN.out
    have hc10 : w''.cell? ⟨bb, 10, none⟩ = some (.map (some mb)) := cell_of_row _ _ 10 _ _ _ hrow
    have hp0' : (setBlock w'' mb o).cell? ⟨W.heap.size, 0, none⟩ = _ := (World.cell?_of_block (a := ⟨W.heap.size, 0, none⟩) (setBlock_far w'' mb W.heap.size o (by omega))).trans hp0
    have hp1' : (setBlock w'' mb o).cell? ⟨W.heap.size + 1, 0, none⟩ = _ := (World.cell?_of_block (a := ⟨W.heap.size + 1, 0, none⟩) (setBlock_far w'' mb (W.heap.size + 1) o (by omega))).trans hp1
    have hzs := setBlock_size w'' mb o
    have HA3 := hide (HAd.out.blk hW1 hpW o)
    have HB3 : Hid (BSt pb bb mb B ⟨b.p, b.what ++ [K.data.toList]⟩ v4 v7 v8 v9 (setBlock w'' mb o)) := hide
      ⟨(setBlock_far w'' mb bb o l3).trans hrow, HBd.out.rows.keep (by rw [hzs]; exact Nat.le_refl _) (fun k hk _ => setBlock_far w'' mb k o (by omega)), hsn, l1, l2, l3, l4, l5, by rw [hzs]; exact HBd.out.low.2.2.2.2.2⟩
    have HC3 := hide (H0.out.to HA3.out)
    have HE3 := hide (HEd.out.keptB ((Kept.blk w'' mb o).below (B := 3) HEd.out.big (fun i hi => by omega)) (Nat.le_refl _))
    have HK3 := hide (HKd.out.trans ((Kept.blk w'' mb o).mono (G := fun k => k = pb ∨ k = bb ∨ k = mb) (fun k hk => .inr (.inr hk))))
    have e1 : (setBlock w'' mb o).cell? ⟨pb, 1, none⟩ = some (.int .i64 (j : Int)) := HA3.out.here
    have e2 := HA3.out.free
    have hw3 : pb < (setBlock w'' mb o).heap.size := by rw [hzs]; exact HCd.out.lt
    have hz3 : W.heap.size + 3 ≤ (setBlock w'' mb o).heap.size := by rw [hzs]; have := HKd.out.size; have := HF.out.size; omega
    have k1 : (j : Int) + 1 < 9223372036854775808 := by omega
    have k2 : -9223372036854775808 ≤ (j : Int) + 1 := by omega
    have HSN := hide hsn
    have HROW := hide hrow
    clear HAd HBd HCd HEd HKd hsn hzs hrow
    generalize setBlock w'' mb o = V3 at *
    generalize hz : (j : Int) = z at e1 k1 k2
    have HZ := hide hz
    clear hz
    go_wp2_with fail
    have HA4 := hide (HA3.out.goto hpW (j + 1))
    rw [show ((j + 1 : Nat) : Int) = z + 1 from by have := HZ.out; omega] at HA4
    have HK4 := hide (HK3.out.setCell (p := ⟨pb, 1, none⟩) (.inl (.inl rfl)) (.int .i64 (z + 1)))
    have hP4 : AtJ pb (j + 1) V3 (V3.setCell ⟨pb, 1, none⟩ (.int .i64 ((j + 1 : Nat) : Int))) := (AtJ.start HA3.out.here HA3.out.free).goto hw3 (j + 1)
    rw [show ((j + 1 : Nat) : Int) = z + 1 from by have := HZ.out; omega] at hP4
    have HB4 := hide (HB3.out.to hP4)
    have HC4 := hide (HC3.out.to hP4)
    have hq0 : (V3.setCell ⟨pb, 1, none⟩ (.int .i64 (z + 1))).cell? ⟨W.heap.size, 0, none⟩ = _ := (hP4.kept.cell (p := ⟨W.heap.size, 0, none⟩) (by show W.heap.size < _; omega) (by show ¬ W.heap.size = pb; omega)).trans hp0'
    have hq1 : (V3.setCell ⟨pb, 1, none⟩ (.int .i64 (z + 1))).cell? ⟨W.heap.size + 1, 0, none⟩ = _ := (hP4.kept.cell (p := ⟨W.heap.size + 1, 0, none⟩) (by show W.heap.size + 1 < _; omega) (by show ¬ W.heap.size + 1 = pb; omega)).trans hp1'
    have hz4 : W.heap.size + 3 ≤ (V3.setCell ⟨pb, 1, none⟩ (.int .i64 (z + 1))).heap.size := Nat.le_trans hz3 hP4.kept.size
    clear hP4 HA3 HB3 HC3 HK3 hp0 hp1 hp0' hp1' hz3 hw3 e1 e2 k1 k2 hput hlk hc10 HSN HROW HE3
    generalize V3.setCell ⟨pb, 1, none⟩ (.int .i64 (z + 1)) = V4 at *
    have hTAIL : Hid (ts.drop (j + 1) = (ts.drop j).tail) := hide (by simp)
    refine (clo3_any pb (j + 1) bb mb B W.heap.size (W.heap.size + 1) ts ⟨b.p, b.what ++ [K.data.toList]⟩ v4 v7 v8 v9 W0 V4 HC4 hts hjl hT HA4 HB4 hpW hW0 hq0 hq1 (by omega) (by omega)).mono ?_
    rintro e w5 ⟨hE5, hk5⟩
    have HK5 := hide (HK4.out.trans (hk5.mono (G := fun k => k = pb ∨ k = bb ∨ k = mb) (fun k hk => by rcases hk with h | h <;> simp [h])))
    have HKF := hide (fun (V' : World) (hk : Kept (fun k => k = pb ∨ k = bb ∨ k = mb) V V') => ((Kept.of_below HF.out.below : Kept (fun k => k = pb ∨ k = bb ∨ k = mb) W V).trans hk).mono (G := fun k => k = pb ∨ k = bb ∨ k = mb ∨ B ≤ k) (fun k hk => by rcases hk with h | h | h <;> simp [h]))
    rcases hE5.split with ⟨b5, j5, u4, u7, u8, u9, hr, hj5, hA, hB, rfl⟩ | ⟨n, jn, hr, hjn, hA, rfl⟩
    rotate_left
    · have HX := hide (EndsB.mk_bad (bb := bb) (mb := mb) (B := B) (HTH.out.trans (once_bad1 (x := eventsP b.p) (by rw [← HKW.out]; exact HCN.out) (by rw [← hTAIL.out, ← HKW.out]; exact hr))) hjn hA)
      have HKX := hide (HKF.out _ HK5.out)
      clear hE5 hr hA hk5
      go_wp2_with fail
      exact ⟨rfl, HX.out, HKX.out⟩
    have hq0' : w5.cell? ⟨W.heap.size, 0, none⟩ = _ := (hk5.cell (p := ⟨W.heap.size, 0, none⟩) (by show W.heap.size < _; omega) (by show ¬ (W.heap.size = pb ∨ W.heap.size = bb); omega)).trans hq0
    have HA5 := hide hA
    have HB5 := hide hB
    have HR5 := hide hr
    have hp5 : pb < w5.heap.size := Nat.lt_of_lt_of_le HC4.out.lt hk5.size
    have HC5 : Hid (Cur pb ts j5 w5) := hide (H0.out.to HA5.out)
    clear hE5 hr hA hB hk5 hq0 hq1 hz4 HA4 HB4 HC4 HK4
    go_wp2_with fail
    refine (must_new pb j5 _ ts ⟨#[59]⟩ _ HC5 hts' hj5 (by decide) rfl).mono ?_
    rintro e w6 hE6
    rcases hE6.split with ⟨a6, j6, hr, hj6, hA, rfl⟩ | ⟨n, jn, hr, hjn, hA, rfl⟩
    rotate_left
    · have HX := hide (EndsB.mk_bad (bb := bb) (mb := mb) (B := B) (HTH.out.trans (once_bad2 (x := eventsP b.p) (by rw [← HKW.out]; exact HCN.out) (by rw [← hTAIL.out, ← HKW.out]; exact HR5.out) hr)) hjn (HA5.out.trans hA))
      have HKX := hide (HKF.out _ (HK5.out.trans (hA.kept.mono (G := fun k => k = pb ∨ k = bb ∨ k = mb) (fun k hk => .inl hk))))
      clear hE6 hr hA
      go_wp2_with fail
      exact ⟨rfl, HX.out, HKX.out⟩
    have HX := hide (EndsB.mk_ok (HTH.out.trans (once_ok (x := eventsP b.p) (by rw [← HKW.out]; exact HCN.out) (by rw [← hTAIL.out, ← HKW.out]; exact HR5.out) hr)) hj6 (HA5.out.trans hA) (HB5.out.to hA))
    have HKX := hide (HKF.out _ (HK5.out.trans (hA.kept.mono (G := fun k => k = pb ∨ k = bb ∨ k = mb) (fun k hk => .inl hk))))
    clear hE6 hr hA
    go_wp2_with fail
    go_end0
    exact ⟨HX.out, HKX.out⟩
set_option maxRecDepth 100000 in
set_option maxHeartbeats 4000000 in
theorem thg_boards (pb i0 j bb mb B : Nat) (ts : List Tok) (b : BuildD) (v4 v7 v8 v9 : Value) (W0 W : World) (H0 : Hid (Cur pb ts i0 W0)) (hts : ts.length ≤ 1000000) (hj : j ≤ ts.length) (hT : Hid (TokOk ts)) (HA : Hid (AtJ pb j W0 W)) (HB : Hid (BSt pb bb mb B b v4 v7 v8 v9 W)) (hpW : pb < W0.heap.size) (hW0 : W0.heap.size ≤ bb) (hW1 : W0.heap.size ≤ mb) (hE : Hid (EnvP W)) (hpE : 3 ≤ pb)(hw : Hid ((hdT (ts.drop j)).text = [98, 111, 97, 114, 100, 115])) :
    Calls Tryz.prog 137 #[.pointer (some ⟨pb, 0, none⟩), .pointer (some ⟨bb, 0, none⟩)] W fun e W' => EndsB pb ts W0 bb mb B (thingP b (ts.drop j)) e W' ∧ Kept (fun k => k = pb ∨ k = bb ∨ k = mb ∨ B ≤ k) W W' := by
  have hts' : ts.length ≤ 1099511627776 := by omega
  have H := hide (H0.out.to HA.out)
  obtain ⟨l1, l2, l3, l4, l5, l6⟩ := HB.out.low
  have hgd := hide hT.out.good
  have hpW' : pb < W.heap.size := by omega
  have ft1 := field_tok1
  have hmm := @run_makeMap Tryz.prog
  have hmf : ∀ (fn : Fn) (first cap : Array Value) (w : World), (Instr.makeFunc fn first cap).run Tryz.prog w = .ok (.func fn first cap) w := fun _ _ _ _ => rfl
  have hi1 := fun (v : Value) => run_insF ((W.alloc (Obj.cells #[Value.pointer (some ⟨pb, 0, none⟩)] 85)).alloc (Obj.cells #[Value.pointer (some ⟨bb, 0, none⟩)] 201)) (W.heap.size + 1 + 1) (by simp) #[] 0 ⟨#[115, 101, 109, 97, 115]⟩ v rfl
  have hi2 := fun (v1 v : Value) => run_insF ((W.alloc (Obj.cells #[Value.pointer (some ⟨pb, 0, none⟩)] 85)).alloc (Obj.cells #[Value.pointer (some ⟨bb, 0, none⟩)] 201)) (W.heap.size + 1 + 1) (by simp) #[⟨.string ⟨#[115, 101, 109, 97, 115]⟩, v1, 0⟩] 1 ⟨#[98, 117, 102, 115]⟩ v (by kernel_rfl)
  have hi3 := fun (v1 v2 v : Value) => run_insF ((W.alloc (Obj.cells #[Value.pointer (some ⟨pb, 0, none⟩)] 85)).alloc (Obj.cells #[Value.pointer (some ⟨bb, 0, none⟩)] 201)) (W.heap.size + 1 + 1) (by simp) #[⟨.string ⟨#[115, 101, 109, 97, 115]⟩, v1, 0⟩, ⟨.string ⟨#[98, 117, 102, 115]⟩, v2, 1⟩] 2 ⟨#[101, 118, 101, 110, 116, 115]⟩ v (by kernel_rfl)
  have hi4 := fun (v1 v2 v3 v : Value) => run_insF ((W.alloc (Obj.cells #[Value.pointer (some ⟨pb, 0, none⟩)] 85)).alloc (Obj.cells #[Value.pointer (some ⟨bb, 0, none⟩)] 201)) (W.heap.size + 1 + 1) (by simp) #[⟨.string ⟨#[115, 101, 109, 97, 115]⟩, v1, 0⟩, ⟨.string ⟨#[98, 117, 102, 115]⟩, v2, 1⟩, ⟨.string ⟨#[101, 118, 101, 110, 116, 115]⟩, v3, 2⟩] 3 ⟨#[98, 111, 97, 114, 100, 115]⟩ v (by kernel_rfl)
  go_enter Tryz.func137, Tryz.ntmps137
  go_wp2_with fail
  change Calls _ _ _ (thgW W pb bb) _
  have HF := hide (thgW_facts W pb bb)
  generalize thgW W pb bb = V at *
  clear hi1 hi2 hi3 hi4 hmm hmf
  have HAV := hide (HA.out.below hpW HF.out.below)
  have HBV := hide (HB.out.below HF.out.below)
  have HCV := hide (H.out.below HF.out.below)
  have HEV := hide (hE.out.below HF.out.below)
  have HC := hide (here_any pb j ts V HCV hts' hj)
  generalize ht : hdT (ts.drop j) = t at HC hw
  have HT0 := hide ht
  clear ht
  obtain ⟨κ, tx, ta⟩ := t
  unfold tokVal at HC
  dsimp only at HC hw
  generalize (κ : Int) = κz at HC
  generalize (ta : Int) = taz at HC
  refine (HC.out).mono ?_
  rintro e w1 ⟨rfl, hb⟩
  have HK1 := hide ((Kept.of_below hb : Kept (fun k => k = pb ∨ k = bb ∨ k = mb) V w1))
  have HA1 := hide (HAV.out.below hpW hb)
  have HB1 := hide (HBV.out.below hb)
  have HC1 := hide (HCV.out.below hb)
  have HE1 := hide (HEV.out.below hb)
  have HM1 := hide ((hb.block _ (by have := HF.out.size; omega)).trans HF.out.map)
  clear hb HC HAV HBV HCV HEV
  have hjl : j < ts.length := by
    rcases Nat.lt_or_ge j ts.length with h | h
    · exact h
    · have h1 := hw.out
      rw [hdT_end ts j h] at HT0
      have h2 := congrArg Tok.text HT0.out
      simp only at h2
      rw [← h2] at h1
      cases h1
  have HTH := hide (thing_boards hT.out j b (by rw [HT0.out]; exact hw.out))
  have hFF : ∀ k, W.heap.size ≤ k → ¬ (k = pb ∨ k = bb ∨ k = mb) := fun k hk => by omega
  have HFF := hide hFF
  clear hFF
  generalize hKK : (⟨tx.toArray⟩ : ByteArray) = K at *
  have HKW : Hid (K.data.toList = [98, 111, 97, 114, 100, 115]) := hide (by rw [← hKK]; exact hw.out)
  clear hKK hw HT0
  have hl := run_lookF HM1.out K (cloV 161 W) (by rw [HKW.out]; rfl)
  unfold cloV at hl
  have hne := neq_fun
  go_wp2_with fail
  clear hne
  obtain ⟨hp0, hp1, hz1⟩ := HF.out.keep HK1.out HFF.out
  refine wp_region_tail (S := fun w' => w'.cell? ⟨W.heap.size, 0, none⟩ = some (.pointer (some ⟨pb, 0, none⟩)) ∧ w'.cell? ⟨W.heap.size + 1, 0, none⟩ = some (.pointer (some ⟨bb, 0, none⟩)) ∧ w'.heap[bb]? = some (bldRow b.p mb v4 v7 v8 v9) ∧ Seen w' mb b.what) 10 (by kernel_rfl) (by kernel_rfl) ⟨hp0, hp1, HB1.out.row, HB1.out.seen⟩ (fun hHeld => ?_)
  have HKd := hide (HK1.out.drew)
  have HAd := hide (HA1.out.drew)
  have HBd := hide (HB1.out.bare (w' := w1.drew) rfl)
  have HCd := hide (HC1.out.to (AtJ.start HC1.out.now HC1.out.free).drew)
  have HEd := hide (HE1.out.below ((Below.refl w1.heap.size w1).drew))
  clear HK1 HA1 HB1 HC1 HE1 HM1 hl hp0 hp1 hz1
  generalize w1.drew = V2 at *
  refine tk 0 37 rfl (by kernel_rfl) (fun _ _ _ h => h) rfl (fun _ hS => by have e1 := hS.1; go_simp; with_reducible rfl) hHeld ?_
  (try simp only [Act.put, putA, putB, putC])
  refine tk 1 38 rfl (by kernel_rfl) (fun _ _ _ h => h) rfl (fun _ hS => by skip; go_simp; with_reducible rfl) hHeld ?_
  (try simp only [Act.put, putA, putB, putC])
  refine tk 2 39 rfl (by kernel_rfl) (fun _ _ _ h => h) rfl (fun _ hS => by skip; go_simp; with_reducible rfl) hHeld ?_
  (try simp only [Act.put, putA, putB, putC])
  refine tk 3 40 rfl (by kernel_rfl) (fun _ _ _ h => h) rfl (fun _ hS => by have e1 := hS.2.1; go_simp; with_reducible rfl) hHeld ?_
  (try simp only [Act.put, putA, putB, putC])
  refine tk 4 41 rfl (by kernel_rfl) (fun _ _ _ h => h) rfl (fun _ hS => by skip; go_simp; with_reducible rfl) hHeld ?_
  (try simp only [Act.put, putA, putB, putC])
  refine tk 5 42 rfl (by kernel_rfl) (fun _ _ _ h => h) rfl (fun _ hS => by skip; go_simp; with_reducible rfl) hHeld ?_
  (try simp only [Act.put, putA, putB, putC])
  refine tk 6 43 rfl (by kernel_rfl) (fun _ _ _ h => h) rfl (fun _ hS => by have e1 := cell_of_row _ _ 10 _ _ _ hS.2.2.1; go_simp; with_reducible rfl) hHeld ?_
  (try simp only [Act.put, putA, putB, putC])
  refine tk 7 44 rfl (by kernel_rfl) (fun _ _ _ h => h) rfl (fun _ hS => by skip; go_simp; with_reducible rfl) hHeld ?_
  (try simp only [Act.put, putA, putB, putC])
  cases hc : b.what.contains K.data.toList with
  | true =>
    have HCN := hide hc
    clear hc
    refine tk 8 45 rfl (by kernel_rfl) (fun _ _ _ h => h) rfl (fun _ hS => by have e1 := hS.2.2.2.look K; rw [HCN.out] at e1; simp only [if_true] at e1; go_simp; with_reducible rfl) hHeld ?_
    (try simp only [Act.put, putA, putB, putC])
    refine tk 9 46 rfl (by kernel_rfl) (fun _ _ _ h => h) rfl (fun _ hS => by skip; go_simp; with_reducible rfl) hHeld ?_
    (try simp only [Act.put, putA, putB, putC])
    refine wpAnyT_done (by kernel_rfl) ?_
    simp only [List.drop_succ_cons, List.drop_zero]
    have HX := hide (EndsB.mk_bad (bb := bb) (mb := mb) (B := B) (HTH.out.trans (once_twice (by rw [← HKW.out]; exact HCN.out))) hj HAd.out)
    have HKX := hide (((Kept.of_below HF.out.below : Kept (fun k => k = pb ∨ k = bb ∨ k = mb) W V).trans HKd.out).mono (G := fun k => k = pb ∨ k = bb ∨ k = mb ∨ B ≤ k) (fun k hk => by rcases hk with h | h | h <;> simp [h]))
    clear hHeld
    go_wp2_with fail
    ((with_reducible refine (check_no _ _ _).mono ?_); rintro e w'' ⟨rfl, rfl⟩)
    go_wp2_with fail
    exact ⟨rfl, HX.out, HKX.out⟩
  | false =>
    have HCN := hide hc
    clear hc
    refine tk 8 45 rfl (by kernel_rfl) (fun _ _ _ h => h) rfl (fun _ hS => by have e1 := hS.2.2.2.look K; rw [HCN.out] at e1; simp only [if_false, Bool.false_eq_true] at e1; go_simp; with_reducible rfl) hHeld ?_
    (try simp only [Act.put, putA, putB, putC])
    refine tk 9 46 rfl (by kernel_rfl) (fun _ _ _ h => h) rfl (fun _ hS => by skip; go_simp; with_reducible rfl) hHeld ?_
    (try simp only [Act.put, putA, putB, putC])
    refine wpAnyT_done (by kernel_rfl) ?_
    simp only [List.drop_succ_cons, List.drop_zero]
    obtain ⟨hp0, hp1, hrow, hseen⟩ := hHeld
    go_wp2_with fail
    ((with_reducible refine (check_yes _ _ _).mono ?_); rintro e w'' ⟨rfl, rfl⟩)
    have hlk := hseen.look K
    rw [HCN.out] at hlk
    simp only [if_false, Bool.false_eq_true] at hlk
    obtain ⟨o, hput, hsn⟩ := hseen.put K HCN.out
    have hc10 : w''.cell? ⟨bb, 10, none⟩ = some (.map (some mb)) := cell_of_row _ _ 10 _ _ _ hrow
    have hp0' : (setBlock w'' mb o).cell? ⟨W.heap.size, 0, none⟩ = _ := (World.cell?_of_block (a := ⟨W.heap.size, 0, none⟩) (setBlock_far w'' mb W.heap.size o (by omega))).trans hp0
    have hp1' : (setBlock w'' mb o).cell? ⟨W.heap.size + 1, 0, none⟩ = _ := (World.cell?_of_block (a := ⟨W.heap.size + 1, 0, none⟩) (setBlock_far w'' mb (W.heap.size + 1) o (by omega))).trans hp1
    have hzs := setBlock_size w'' mb o
    have HA3 := hide (HAd.out.blk hW1 hpW o)
    have HB3 : Hid (BSt pb bb mb B ⟨b.p, b.what ++ [K.data.toList]⟩ v4 v7 v8 v9 (setBlock w'' mb o)) := hide
      ⟨(setBlock_far w'' mb bb o l3).trans hrow, HBd.out.rows.keep (by rw [hzs]; exact Nat.le_refl _) (fun k hk _ => setBlock_far w'' mb k o (by omega)), hsn, l1, l2, l3, l4, l5, by rw [hzs]; exact HBd.out.low.2.2.2.2.2⟩
    have HC3 := hide (H0.out.to HA3.out)
    have HE3 := hide (HEd.out.keptB ((Kept.blk w'' mb o).below (B := 3) HEd.out.big (fun i hi => by omega)) (Nat.le_refl _))
    have HK3 := hide (HKd.out.trans ((Kept.blk w'' mb o).mono (G := fun k => k = pb ∨ k = bb ∨ k = mb) (fun k hk => .inr (.inr hk))))
    have e1 : (setBlock w'' mb o).cell? ⟨pb, 1, none⟩ = some (.int .i64 (j : Int)) := HA3.out.here
    have e2 := HA3.out.free
    have hw3 : pb < (setBlock w'' mb o).heap.size := by rw [hzs]; exact HCd.out.lt
    have hz3 : W.heap.size + 3 ≤ (setBlock w'' mb o).heap.size := by rw [hzs]; have := HKd.out.size; have := HF.out.size; omega
    have k1 : (j : Int) + 1 < 9223372036854775808 := by omega
    have k2 : -9223372036854775808 ≤ (j : Int) + 1 := by omega
    have HSN := hide hsn
    have HROW := hide hrow
    clear HAd HBd HCd HEd HKd hsn hzs hrow
    generalize setBlock w'' mb o = V3 at *
    generalize hz : (j : Int) = z at e1 k1 k2
    have HZ := hide hz
    clear hz
    go_wp2_with fail
    have HA4 := hide (HA3.out.goto hpW (j + 1))
    rw [show ((j + 1 : Nat) : Int) = z + 1 from by have := HZ.out; omega] at HA4
    have HK4 := hide (HK3.out.setCell (p := ⟨pb, 1, none⟩) (.inl (.inl rfl)) (.int .i64 (z + 1)))
    have hP4 : AtJ pb (j + 1) V3 (V3.setCell ⟨pb, 1, none⟩ (.int .i64 ((j + 1 : Nat) : Int))) := (AtJ.start HA3.out.here HA3.out.free).goto hw3 (j + 1)
    rw [show ((j + 1 : Nat) : Int) = z + 1 from by have := HZ.out; omega] at hP4
    have HB4 := hide (HB3.out.to hP4)
    have HC4 := hide (HC3.out.to hP4)
    have hq0 : (V3.setCell ⟨pb, 1, none⟩ (.int .i64 (z + 1))).cell? ⟨W.heap.size, 0, none⟩ = _ := (hP4.kept.cell (p := ⟨W.heap.size, 0, none⟩) (by show W.heap.size < _; omega) (by show ¬ W.heap.size = pb; omega)).trans hp0'
    have hq1 : (V3.setCell ⟨pb, 1, none⟩ (.int .i64 (z + 1))).cell? ⟨W.heap.size + 1, 0, none⟩ = _ := (hP4.kept.cell (p := ⟨W.heap.size + 1, 0, none⟩) (by show W.heap.size + 1 < _; omega) (by show ¬ W.heap.size + 1 = pb; omega)).trans hp1'
    have hz4 : W.heap.size + 3 ≤ (V3.setCell ⟨pb, 1, none⟩ (.int .i64 (z + 1))).heap.size := Nat.le_trans hz3 hP4.kept.size
    clear hP4 HA3 HB3 HC3 HK3 hp0 hp1 hp0' hp1' hz3 hw3 e1 e2 k1 k2 hput hlk hc10 HSN HROW HE3
    generalize V3.setCell ⟨pb, 1, none⟩ (.int .i64 (z + 1)) = V4 at *
    have hTAIL : Hid (ts.drop (j + 1) = (ts.drop j).tail) := hide (by simp)
    refine (clo4_any pb (j + 1) bb mb B W.heap.size (W.heap.size + 1) ts ⟨b.p, b.what ++ [K.data.toList]⟩ v4 v7 v8 v9 W0 V4 HC4 hts hjl hT HA4 HB4 hpW hW0 hq0 hq1 (by omega) (by omega)).mono ?_
    rintro e w5 ⟨hE5, hk5⟩
    have HK5 := hide (HK4.out.trans (hk5.mono (G := fun k => k = pb ∨ k = bb ∨ k = mb) (fun k hk => by rcases hk with h | h <;> simp [h])))
    have HKF := hide (fun (V' : World) (hk : Kept (fun k => k = pb ∨ k = bb ∨ k = mb) V V') => ((Kept.of_below HF.out.below : Kept (fun k => k = pb ∨ k = bb ∨ k = mb) W V).trans hk).mono (G := fun k => k = pb ∨ k = bb ∨ k = mb ∨ B ≤ k) (fun k hk => by rcases hk with h | h | h <;> simp [h]))
    rcases hE5.split with ⟨b5, j5, u4, u7, u8, u9, hr, hj5, hA, hB, rfl⟩ | ⟨n, jn, hr, hjn, hA, rfl⟩
    rotate_left
    · have HX := hide (EndsB.mk_bad (bb := bb) (mb := mb) (B := B) (HTH.out.trans (once_bad1 (x := boardsP b.p) (by rw [← HKW.out]; exact HCN.out) (by rw [← hTAIL.out, ← HKW.out]; exact hr))) hjn hA)
      have HKX := hide (HKF.out _ HK5.out)
      clear hE5 hr hA hk5
      go_wp2_with fail
      exact ⟨rfl, HX.out, HKX.out⟩
    have hq0' : w5.cell? ⟨W.heap.size, 0, none⟩ = _ := (hk5.cell (p := ⟨W.heap.size, 0, none⟩) (by show W.heap.size < _; omega) (by show ¬ (W.heap.size = pb ∨ W.heap.size = bb); omega)).trans hq0
    have HA5 := hide hA
    have HB5 := hide hB
    have HR5 := hide hr
    have hp5 : pb < w5.heap.size := Nat.lt_of_lt_of_le HC4.out.lt hk5.size
    have HC5 : Hid (Cur pb ts j5 w5) := hide (H0.out.to HA5.out)
    clear hE5 hr hA hB hk5 hq0 hq1 hz4 HA4 HB4 HC4 HK4
    go_wp2_with fail
    refine (must_new pb j5 _ ts ⟨#[59]⟩ _ HC5 hts' hj5 (by decide) rfl).mono ?_
    rintro e w6 hE6
    rcases hE6.split with ⟨a6, j6, hr, hj6, hA, rfl⟩ | ⟨n, jn, hr, hjn, hA, rfl⟩
    rotate_left
    · have HX := hide (EndsB.mk_bad (bb := bb) (mb := mb) (B := B) (HTH.out.trans (once_bad2 (x := boardsP b.p) (by rw [← HKW.out]; exact HCN.out) (by rw [← hTAIL.out, ← HKW.out]; exact HR5.out) hr)) hjn (HA5.out.trans hA))
      have HKX := hide (HKF.out _ (HK5.out.trans (hA.kept.mono (G := fun k => k = pb ∨ k = bb ∨ k = mb) (fun k hk => .inl hk))))
      clear hE6 hr hA
      go_wp2_with fail
      exact ⟨rfl, HX.out, HKX.out⟩
    have HX := hide (EndsB.mk_ok (HTH.out.trans (once_ok (x := boardsP b.p) (by rw [← HKW.out]; exact HCN.out) (by rw [← hTAIL.out, ← HKW.out]; exact HR5.out) hr)) hj6 (HA5.out.trans hA) (HB5.out.to hA))
    have HKX := hide (HKF.out _ (HK5.out.trans (hA.kept.mono (G := fun k => k = pb ∨ k = bb ∨ k = mb) (fun k hk => .inl hk))))
    clear hE6 hr hA
    go_wp2_with fail
    go_end0
    exact ⟨HX.out, HKX.out⟩
end Go.Proofs.YtlngbjphagnloaaGreatDoor
