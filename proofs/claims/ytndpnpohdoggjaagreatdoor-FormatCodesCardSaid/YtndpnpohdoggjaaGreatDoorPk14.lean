/-
  Merged texts: format: the predicates on processes, partitions, modules. | format: the predicate on health rows. | format: the predicate on causes. | format: Valid.
-/
import Derived.Test.YtndpnpohdoggjaaGreatDoorPk13
import Derived.Test.YtndpnpohdoggjaaGreatDoorPk10
import Derived.Test.YtndpnpohdoggjaaGreatDoorPk4
namespace Go.Proofs.YtndpnpohdoggjaaGreatDoor
open Go.RowKit
attribute [local go_sem] Later.cell
def ProcFit (y : ProcD) : Prop := y.code.length ≤ 140737488355328 ∧ ∀ z ∈ y.code, z.op ≤ 255
def PartFit (x : PartD) : Prop := x.semas.length ≤ 140737488355328 ∧ x.bufs.length ≤ 140737488355328 ∧ x.ports.length ≤ 140737488355328 ∧ x.procs.length ≤ 140737488355328 ∧ ∀ y ∈ x.procs, ProcFit y
def ModFit (x : ModD) : Prop := x.parts.length ≤ 140737488355328 ∧ ∀ y ∈ x.parts, PartFit y
def procF (x : ProcD) : Bool := wordF x.name && ([x.prio, x.period, x.limit].all numF && (x.code.all insF))
set_option maxRecDepth 100000 in
set_option maxHeartbeats 4000000 in
theorem f_proc (x : ProcD) (us : List Value) (W : World) (hE : Hid (Env W)) (hd : Hid (DCells W (fun _ => True) us x.cells)) (hP : Hid (EnvP W)) (hl : ProcFit x) :
    Calls Tryz.prog 149 #[.agg us.toArray] W fun e w' => e = .returned (.bool (procF x)) ∧ Below W.heap.size W w' := by
  have hd := hd.out
  obtain ⟨u0, us, rfl, h0, hd⟩ := dcells_cons hd
  obtain ⟨u1, us, rfl, h1, hd⟩ := dcells_cons hd
  obtain ⟨u2, us, rfl, h2, hd⟩ := dcells_cons hd
  obtain ⟨u3, us, rfl, h3, hd⟩ := dcells_cons hd
  obtain ⟨u4, us, rfl, h4, hd⟩ := dcells_cons hd
  obtain rfl := dcells_nil hd
  obtain rfl := h0.leaf_eq
  obtain rfl := h1.leaf_eq
  obtain rfl := h2.leaf_eq
  obtain rfl := h3.leaf_eq
  have H4 := hide h4
  obtain ⟨A4, q4, rfl, -⟩ := h4.slice
  simp only [List.length_map] at H4 ⊢
  clear hd h0 h1 h2 h3 h4
  simp only [strV]
  have HX := hide (heap_alloc_new W (.cells #[.string ⟨x.name.toArray⟩, .int .i64 x.prio, .int .i64 x.period, .int .i64 x.limit, .slice A4 x.code.length q4] 31))
  have HB := hide ((Below.refl W.heap.size W).alloc (Nat.le_refl _) (.cells #[.string ⟨x.name.toArray⟩, .int .i64 x.prio, .int .i64 x.period, .int .i64 x.limit, .slice A4 x.code.length q4] 31))
  go_enter Tryz.func149, Tryz.ntmps149
  go_wp2_with fail
  generalize W.alloc (.cells #[.string ⟨x.name.toArray⟩, .int .i64 x.prio, .int .i64 x.period, .int .i64 x.limit, .slice A4 x.code.length q4] 31) = w0 at *
  have HC := hide (fword_any ⟨x.name.toArray⟩ w0 (hide (hE.out.kept HB.out)))
  simp only at HC
  generalize hb0 : (wordF x.name) = z0 at HC
  have HZ0 := hide hb0
  clear hb0
  cases z0 with
  | false =>
    refine HC.out.mono ?_
    rintro e w1 ⟨rfl, hb⟩
    have HBn := hide (HB.out.trans (hb.mono HB.out.size))
    go_wp2_with fail
    go_ret
    exact ⟨by unfold procF; rw [HZ0.out]; rfl, HBn.out⟩
  | true =>
    refine HC.out.mono ?_
    rintro e w1 ⟨rfl, hb⟩
    have HBn := hide (HB.out.trans (hb.mono HB.out.size))
    have HXn := hide ((hb.block _ (Array.getElem?_eq_some_iff.1 HX.out).1).trans HX.out)
    clear HX HB HC hb
    have HX := HXn
    have HB := HBn
    clear HXn HBn
    have c0 := cell_of_row _ _ 0 _ _ _ HX.out
    have c1 := cell_of_row _ _ 1 _ _ _ HX.out
    have c2 := cell_of_row _ _ 2 _ _ _ HX.out
    have c3 := cell_of_row _ _ 3 _ _ _ HX.out
    have c4 := cell_of_row _ _ 4 _ _ _ HX.out
    go_wp2_with fail
    clear c0 c1 c2 c3 c4
    have HBa := hide (HB.out.alloc HB.out.size (.cells #[.int .i64 x.prio, .int .i64 x.period, .int .i64 x.limit] 3))
    have HC := hide (nums_any (.slice (some ⟨w1.heap.size, 0, none⟩) 3 3) [x.prio, x.period, x.limit] (w1.alloc (.cells #[.int .i64 x.prio, .int .i64 x.period, .int .i64 x.limit] 3)) (hide (dat_ints w1 [x.prio, x.period, x.limit] 3)) (by simp))
    generalize hb1 : ([x.prio, x.period, x.limit].all numF) = z1 at HC
    have HZ1 := hide hb1
    clear hb1
    cases z1 with
    | false =>
      refine HC.out.mono ?_
      rintro e w2 ⟨rfl, hb⟩
      have HBn := hide (HBa.out.trans (hb.mono HBa.out.size))
      go_wp2_with fail
      go_ret
      exact ⟨by unfold procF; rw [HZ0.out, HZ1.out]; rfl, HBn.out⟩
    | true =>
      refine HC.out.mono ?_
      rintro e w2 ⟨rfl, hb⟩
      have HBn := hide (HBa.out.trans (hb.mono HBa.out.size))
      have HXn := hide ((hb.block _ (by have := (Array.getElem?_eq_some_iff.1 HX.out).1; simp; omega)).trans ((Below.heap_alloc _ _ _ (Array.getElem?_eq_some_iff.1 HX.out).1).trans HX.out))
      clear HX HB HC hb HBa
      have HX := HXn
      have HB := HBn
      clear HXn HBn
      have c0 := cell_of_row _ _ 0 _ _ _ HX.out
      have c1 := cell_of_row _ _ 1 _ _ _ HX.out
      have c2 := cell_of_row _ _ 2 _ _ _ HX.out
      have c3 := cell_of_row _ _ 3 _ _ _ HX.out
      have c4 := cell_of_row _ _ 4 _ _ _ HX.out
      go_wp2_with fail
      clear c0 c1 c2 c3 c4
      have HC := hide (all_ins _ x.code insF w2 (hide (H4.out.later HB.out)) hl.1 (hide (fun y hy us w' hb hd => f_ins y (hl.2 y hy) us w' (hide (hP.out.below (HB.out.trans (hb.mono HB.out.size)))) (hide hd))))
      generalize hb2 : (x.code.all insF) = z2 at HC
      have HZ2 := hide hb2
      clear hb2
      refine HC.out.mono ?_
      rintro e w3 ⟨rfl, hb⟩
      have HBn := hide (HB.out.trans (hb.mono HB.out.size))
      go_wp2_with fail
      go_ret
      exact ⟨by unfold procF; rw [HZ0.out, HZ1.out, HZ2.out]; rfl, HBn.out⟩
def partF (x : PartD) : Bool := wordF x.name && ([x.period, x.length, x.mem, x.events, x.boards].all numF && (x.semas.all numF && (x.bufs.all numF && (x.ports.all portF && (x.procs.all procF)))))
set_option maxRecDepth 100000 in
set_option maxHeartbeats 4000000 in
theorem f_part (x : PartD) (us : List Value) (W : World) (hE : Hid (Env W)) (hd : Hid (DCells W (fun _ => True) us x.cells)) (hP : Hid (EnvP W)) (hl : PartFit x) :
    Calls Tryz.prog 93 #[.agg us.toArray] W fun e w' => e = .returned (.bool (partF x)) ∧ Below W.heap.size W w' := by
  have hd := hd.out
  obtain ⟨u0, us, rfl, h0, hd⟩ := dcells_cons hd
  obtain ⟨u1, us, rfl, h1, hd⟩ := dcells_cons hd
  obtain ⟨u2, us, rfl, h2, hd⟩ := dcells_cons hd
  obtain ⟨u3, us, rfl, h3, hd⟩ := dcells_cons hd
  obtain ⟨u4, us, rfl, h4, hd⟩ := dcells_cons hd
  obtain ⟨u5, us, rfl, h5, hd⟩ := dcells_cons hd
  obtain ⟨u6, us, rfl, h6, hd⟩ := dcells_cons hd
  obtain ⟨u7, us, rfl, h7, hd⟩ := dcells_cons hd
  obtain ⟨u8, us, rfl, h8, hd⟩ := dcells_cons hd
  obtain ⟨u9, us, rfl, h9, hd⟩ := dcells_cons hd
  obtain rfl := dcells_nil hd
  obtain rfl := h0.leaf_eq
  obtain rfl := h1.leaf_eq
  obtain rfl := h2.leaf_eq
  obtain rfl := h3.leaf_eq
  have H4 := hide h4
  obtain ⟨A4, q4, rfl, -⟩ := h4.slice
  rw [show (intRows x.semas).length = x.semas.length from by simp [intRows]] at H4 ⊢
  obtain rfl := h5.leaf_eq
  obtain rfl := h6.leaf_eq
  have H7 := hide h7
  obtain ⟨A7, q7, rfl, -⟩ := h7.slice
  rw [show (intRows x.bufs).length = x.bufs.length from by simp [intRows]] at H7 ⊢
  have H8 := hide h8
  obtain ⟨A8, q8, rfl, -⟩ := h8.slice
  simp only [List.length_map] at H8 ⊢
  have H9 := hide h9
  obtain ⟨A9, q9, rfl, -⟩ := h9.slice
  simp only [List.length_map] at H9 ⊢
  clear hd h0 h1 h2 h3 h4 h5 h6 h7 h8 h9
  simp only [strV]
  have HX := hide (heap_alloc_new W (.cells #[.string ⟨x.name.toArray⟩, .int .i64 x.period, .int .i64 x.length, .int .i64 x.mem, .slice A4 x.semas.length q4, .int .i64 x.events, .int .i64 x.boards, .slice A7 x.bufs.length q7, .slice A8 x.ports.length q8, .slice A9 x.procs.length q9] 36))
  have HB := hide ((Below.refl W.heap.size W).alloc (Nat.le_refl _) (.cells #[.string ⟨x.name.toArray⟩, .int .i64 x.period, .int .i64 x.length, .int .i64 x.mem, .slice A4 x.semas.length q4, .int .i64 x.events, .int .i64 x.boards, .slice A7 x.bufs.length q7, .slice A8 x.ports.length q8, .slice A9 x.procs.length q9] 36))
  go_enter Tryz.func93, Tryz.ntmps93
  go_wp2_with fail
  generalize W.alloc (.cells #[.string ⟨x.name.toArray⟩, .int .i64 x.period, .int .i64 x.length, .int .i64 x.mem, .slice A4 x.semas.length q4, .int .i64 x.events, .int .i64 x.boards, .slice A7 x.bufs.length q7, .slice A8 x.ports.length q8, .slice A9 x.procs.length q9] 36) = w0 at *
  have HC := hide (fword_any ⟨x.name.toArray⟩ w0 (hide (hE.out.kept HB.out)))
  simp only at HC
  generalize hb0 : (wordF x.name) = z0 at HC
  have HZ0 := hide hb0
  clear hb0
  cases z0 with
  | false =>
    refine HC.out.mono ?_
    rintro e w1 ⟨rfl, hb⟩
    have HBn := hide (HB.out.trans (hb.mono HB.out.size))
    go_wp2_with fail
    go_ret
    exact ⟨by unfold partF; rw [HZ0.out]; rfl, HBn.out⟩
  | true =>
    refine HC.out.mono ?_
    rintro e w1 ⟨rfl, hb⟩
    have HBn := hide (HB.out.trans (hb.mono HB.out.size))
    have HXn := hide ((hb.block _ (Array.getElem?_eq_some_iff.1 HX.out).1).trans HX.out)
    clear HX HB HC hb
    have HX := HXn
    have HB := HBn
    clear HXn HBn
    have c0 := cell_of_row _ _ 0 _ _ _ HX.out
    have c1 := cell_of_row _ _ 1 _ _ _ HX.out
    have c2 := cell_of_row _ _ 2 _ _ _ HX.out
    have c3 := cell_of_row _ _ 3 _ _ _ HX.out
    have c4 := cell_of_row _ _ 4 _ _ _ HX.out
    have c5 := cell_of_row _ _ 5 _ _ _ HX.out
    have c6 := cell_of_row _ _ 6 _ _ _ HX.out
    have c7 := cell_of_row _ _ 7 _ _ _ HX.out
    have c8 := cell_of_row _ _ 8 _ _ _ HX.out
    have c9 := cell_of_row _ _ 9 _ _ _ HX.out
    go_wp2_with fail
    clear c0 c1 c2 c3 c4 c5 c6 c7 c8 c9
    have HBa := hide (HB.out.alloc HB.out.size (.cells #[.int .i64 x.period, .int .i64 x.length, .int .i64 x.mem, .int .i64 x.events, .int .i64 x.boards] 3))
    have HC := hide (nums_any (.slice (some ⟨w1.heap.size, 0, none⟩) 5 5) [x.period, x.length, x.mem, x.events, x.boards] (w1.alloc (.cells #[.int .i64 x.period, .int .i64 x.length, .int .i64 x.mem, .int .i64 x.events, .int .i64 x.boards] 3)) (hide (dat_ints w1 [x.period, x.length, x.mem, x.events, x.boards] 3)) (by simp))
    generalize hb1 : ([x.period, x.length, x.mem, x.events, x.boards].all numF) = z1 at HC
    have HZ1 := hide hb1
    clear hb1
    cases z1 with
    | false =>
      refine HC.out.mono ?_
      rintro e w2 ⟨rfl, hb⟩
      have HBn := hide (HBa.out.trans (hb.mono HBa.out.size))
      go_wp2_with fail
      go_ret
      exact ⟨by unfold partF; rw [HZ0.out, HZ1.out]; rfl, HBn.out⟩
    | true =>
      refine HC.out.mono ?_
      rintro e w2 ⟨rfl, hb⟩
      have HBn := hide (HBa.out.trans (hb.mono HBa.out.size))
      have HXn := hide ((hb.block _ (by have := (Array.getElem?_eq_some_iff.1 HX.out).1; simp; omega)).trans ((Below.heap_alloc _ _ _ (Array.getElem?_eq_some_iff.1 HX.out).1).trans HX.out))
      clear HX HB HC hb HBa
      have HX := HXn
      have HB := HBn
      clear HXn HBn
      have c0 := cell_of_row _ _ 0 _ _ _ HX.out
      have c1 := cell_of_row _ _ 1 _ _ _ HX.out
      have c2 := cell_of_row _ _ 2 _ _ _ HX.out
      have c3 := cell_of_row _ _ 3 _ _ _ HX.out
      have c4 := cell_of_row _ _ 4 _ _ _ HX.out
      have c5 := cell_of_row _ _ 5 _ _ _ HX.out
      have c6 := cell_of_row _ _ 6 _ _ _ HX.out
      have c7 := cell_of_row _ _ 7 _ _ _ HX.out
      have c8 := cell_of_row _ _ 8 _ _ _ HX.out
      have c9 := cell_of_row _ _ 9 _ _ _ HX.out
      go_wp2_with fail
      clear c0 c1 c2 c3 c4 c5 c6 c7 c8 c9
      have HC := hide (nums_any _ x.semas w2 (hide (H4.out.later HB.out)) hl.1)
      generalize hb2 : (x.semas.all numF) = z2 at HC
      have HZ2 := hide hb2
      clear hb2
      cases z2 with
      | false =>
        refine HC.out.mono ?_
        rintro e w3 ⟨rfl, hb⟩
        have HBn := hide (HB.out.trans (hb.mono HB.out.size))
        go_wp2_with fail
        go_ret
        exact ⟨by unfold partF; rw [HZ0.out, HZ1.out, HZ2.out]; rfl, HBn.out⟩
      | true =>
        refine HC.out.mono ?_
        rintro e w3 ⟨rfl, hb⟩
        have HBn := hide (HB.out.trans (hb.mono HB.out.size))
        have HXn := hide ((hb.block _ (Array.getElem?_eq_some_iff.1 HX.out).1).trans HX.out)
        clear HX HB HC hb
        have HX := HXn
        have HB := HBn
        clear HXn HBn
        have c0 := cell_of_row _ _ 0 _ _ _ HX.out
        have c1 := cell_of_row _ _ 1 _ _ _ HX.out
        have c2 := cell_of_row _ _ 2 _ _ _ HX.out
        have c3 := cell_of_row _ _ 3 _ _ _ HX.out
        have c4 := cell_of_row _ _ 4 _ _ _ HX.out
        have c5 := cell_of_row _ _ 5 _ _ _ HX.out
        have c6 := cell_of_row _ _ 6 _ _ _ HX.out
        have c7 := cell_of_row _ _ 7 _ _ _ HX.out
        have c8 := cell_of_row _ _ 8 _ _ _ HX.out
        have c9 := cell_of_row _ _ 9 _ _ _ HX.out
        go_wp2_with fail
        clear c0 c1 c2 c3 c4 c5 c6 c7 c8 c9
        have HC := hide (nums_any _ x.bufs w3 (hide (H7.out.later HB.out)) hl.2.1)
        generalize hb3 : (x.bufs.all numF) = z3 at HC
        have HZ3 := hide hb3
        clear hb3
        cases z3 with
        | false =>
          refine HC.out.mono ?_
          rintro e w4 ⟨rfl, hb⟩
          have HBn := hide (HB.out.trans (hb.mono HB.out.size))
          go_wp2_with fail
          go_ret
          exact ⟨by unfold partF; rw [HZ0.out, HZ1.out, HZ2.out, HZ3.out]; rfl, HBn.out⟩
        | true =>
          refine HC.out.mono ?_
          rintro e w4 ⟨rfl, hb⟩
          have HBn := hide (HB.out.trans (hb.mono HB.out.size))
          have HXn := hide ((hb.block _ (Array.getElem?_eq_some_iff.1 HX.out).1).trans HX.out)
          clear HX HB HC hb
          have HX := HXn
          have HB := HBn
          clear HXn HBn
          have c0 := cell_of_row _ _ 0 _ _ _ HX.out
          have c1 := cell_of_row _ _ 1 _ _ _ HX.out
          have c2 := cell_of_row _ _ 2 _ _ _ HX.out
          have c3 := cell_of_row _ _ 3 _ _ _ HX.out
          have c4 := cell_of_row _ _ 4 _ _ _ HX.out
          have c5 := cell_of_row _ _ 5 _ _ _ HX.out
          have c6 := cell_of_row _ _ 6 _ _ _ HX.out
          have c7 := cell_of_row _ _ 7 _ _ _ HX.out
          have c8 := cell_of_row _ _ 8 _ _ _ HX.out
          have c9 := cell_of_row _ _ 9 _ _ _ HX.out
          go_wp2_with fail
          clear c0 c1 c2 c3 c4 c5 c6 c7 c8 c9
          have HC := hide (all_port _ x.ports portF w4 (hide (H8.out.later HB.out)) hl.2.2.1 (hide (fun y hy us w' hb hd => f_port y us w' (hide (hE.out.kept (HB.out.trans (hb.mono HB.out.size)))) (hide hd))))
          generalize hb4 : (x.ports.all portF) = z4 at HC
          have HZ4 := hide hb4
          clear hb4
          cases z4 with
          | false =>
            refine HC.out.mono ?_
            rintro e w5 ⟨rfl, hb⟩
            have HBn := hide (HB.out.trans (hb.mono HB.out.size))
            go_wp2_with fail
            go_ret
            exact ⟨by unfold partF; rw [HZ0.out, HZ1.out, HZ2.out, HZ3.out, HZ4.out]; rfl, HBn.out⟩
          | true =>
            refine HC.out.mono ?_
            rintro e w5 ⟨rfl, hb⟩
            have HBn := hide (HB.out.trans (hb.mono HB.out.size))
            have HXn := hide ((hb.block _ (Array.getElem?_eq_some_iff.1 HX.out).1).trans HX.out)
            clear HX HB HC hb
            have HX := HXn
            have HB := HBn
            clear HXn HBn
            have c0 := cell_of_row _ _ 0 _ _ _ HX.out
            have c1 := cell_of_row _ _ 1 _ _ _ HX.out
            have c2 := cell_of_row _ _ 2 _ _ _ HX.out
            have c3 := cell_of_row _ _ 3 _ _ _ HX.out
            have c4 := cell_of_row _ _ 4 _ _ _ HX.out
            have c5 := cell_of_row _ _ 5 _ _ _ HX.out
            have c6 := cell_of_row _ _ 6 _ _ _ HX.out
            have c7 := cell_of_row _ _ 7 _ _ _ HX.out
            have c8 := cell_of_row _ _ 8 _ _ _ HX.out
            have c9 := cell_of_row _ _ 9 _ _ _ HX.out
            go_wp2_with fail
            clear c0 c1 c2 c3 c4 c5 c6 c7 c8 c9
            have HC := hide (all_proc _ x.procs procF w5 (hide (H9.out.later HB.out)) hl.2.2.2.1 (hide (fun y hy us w' hb hd => f_proc y us w' (hide (hE.out.kept (HB.out.trans (hb.mono HB.out.size)))) (hide hd) (hide (hP.out.below (HB.out.trans (hb.mono HB.out.size)))) (hl.2.2.2.2 y hy))))
            generalize hb5 : (x.procs.all procF) = z5 at HC
            have HZ5 := hide hb5
            clear hb5
            refine HC.out.mono ?_
            rintro e w6 ⟨rfl, hb⟩
            have HBn := hide (HB.out.trans (hb.mono HB.out.size))
            go_wp2_with fail
            go_ret
            exact ⟨by unfold partF; rw [HZ0.out, HZ1.out, HZ2.out, HZ3.out, HZ4.out, HZ5.out]; rfl, HBn.out⟩
def modF (x : ModD) : Bool := wordF x.name && ([x.mem, x.frame].all numF && (x.parts.all partF))
set_option maxRecDepth 100000 in
set_option maxHeartbeats 4000000 in
theorem f_mod (x : ModD) (us : List Value) (W : World) (hE : Hid (Env W)) (hd : Hid (DCells W (fun _ => True) us x.cells)) (hP : Hid (EnvP W)) (hl : ModFit x) :
    Calls Tryz.prog 21 #[.agg us.toArray] W fun e w' => e = .returned (.bool (modF x)) ∧ Below W.heap.size W w' := by
  have hd := hd.out
  obtain ⟨u0, us, rfl, h0, hd⟩ := dcells_cons hd
  obtain ⟨u1, us, rfl, h1, hd⟩ := dcells_cons hd
  obtain ⟨u2, us, rfl, h2, hd⟩ := dcells_cons hd
  obtain ⟨u3, us, rfl, h3, hd⟩ := dcells_cons hd
  obtain rfl := dcells_nil hd
  obtain rfl := h0.leaf_eq
  obtain rfl := h1.leaf_eq
  obtain rfl := h2.leaf_eq
  have H3 := hide h3
  obtain ⟨A3, q3, rfl, -⟩ := h3.slice
  simp only [List.length_map] at H3 ⊢
  clear hd h0 h1 h2 h3
  simp only [strV]
  have HX := hide (heap_alloc_new W (.cells #[.string ⟨x.name.toArray⟩, .int .i64 x.mem, .int .i64 x.frame, .slice A3 x.parts.length q3] 39))
  have HB := hide ((Below.refl W.heap.size W).alloc (Nat.le_refl _) (.cells #[.string ⟨x.name.toArray⟩, .int .i64 x.mem, .int .i64 x.frame, .slice A3 x.parts.length q3] 39))
  go_enter Tryz.func21, Tryz.ntmps21
  go_wp2_with fail
  generalize W.alloc (.cells #[.string ⟨x.name.toArray⟩, .int .i64 x.mem, .int .i64 x.frame, .slice A3 x.parts.length q3] 39) = w0 at *
  have HC := hide (fword_any ⟨x.name.toArray⟩ w0 (hide (hE.out.kept HB.out)))
  simp only at HC
  generalize hb0 : (wordF x.name) = z0 at HC
  have HZ0 := hide hb0
  clear hb0
  cases z0 with
  | false =>
    refine HC.out.mono ?_
    rintro e w1 ⟨rfl, hb⟩
    have HBn := hide (HB.out.trans (hb.mono HB.out.size))
    go_wp2_with fail
    go_ret
    exact ⟨by unfold modF; rw [HZ0.out]; rfl, HBn.out⟩
  | true =>
    refine HC.out.mono ?_
    rintro e w1 ⟨rfl, hb⟩
    have HBn := hide (HB.out.trans (hb.mono HB.out.size))
    have HXn := hide ((hb.block _ (Array.getElem?_eq_some_iff.1 HX.out).1).trans HX.out)
    clear HX HB HC hb
    have HX := HXn
    have HB := HBn
    clear HXn HBn
    have c0 := cell_of_row _ _ 0 _ _ _ HX.out
    have c1 := cell_of_row _ _ 1 _ _ _ HX.out
    have c2 := cell_of_row _ _ 2 _ _ _ HX.out
    have c3 := cell_of_row _ _ 3 _ _ _ HX.out
    go_wp2_with fail
    clear c0 c1 c2 c3
    have HBa := hide (HB.out.alloc HB.out.size (.cells #[.int .i64 x.mem, .int .i64 x.frame] 3))
    have HC := hide (nums_any (.slice (some ⟨w1.heap.size, 0, none⟩) 2 2) [x.mem, x.frame] (w1.alloc (.cells #[.int .i64 x.mem, .int .i64 x.frame] 3)) (hide (dat_ints w1 [x.mem, x.frame] 3)) (by simp))
    generalize hb1 : ([x.mem, x.frame].all numF) = z1 at HC
    have HZ1 := hide hb1
    clear hb1
    cases z1 with
    | false =>
      refine HC.out.mono ?_
      rintro e w2 ⟨rfl, hb⟩
      have HBn := hide (HBa.out.trans (hb.mono HBa.out.size))
      go_wp2_with fail
      go_ret
      exact ⟨by unfold modF; rw [HZ0.out, HZ1.out]; rfl, HBn.out⟩
    | true =>
      refine HC.out.mono ?_
      rintro e w2 ⟨rfl, hb⟩
      have HBn := hide (HBa.out.trans (hb.mono HBa.out.size))
      have HXn := hide ((hb.block _ (by have := (Array.getElem?_eq_some_iff.1 HX.out).1; simp; omega)).trans ((Below.heap_alloc _ _ _ (Array.getElem?_eq_some_iff.1 HX.out).1).trans HX.out))
      clear HX HB HC hb HBa
      have HX := HXn
      have HB := HBn
      clear HXn HBn
      have c0 := cell_of_row _ _ 0 _ _ _ HX.out
      have c1 := cell_of_row _ _ 1 _ _ _ HX.out
      have c2 := cell_of_row _ _ 2 _ _ _ HX.out
      have c3 := cell_of_row _ _ 3 _ _ _ HX.out
      go_wp2_with fail
      clear c0 c1 c2 c3
      have HC := hide (all_part _ x.parts partF w2 (hide (H3.out.later HB.out)) hl.1 (hide (fun y hy us w' hb hd => f_part y us w' (hide (hE.out.kept (HB.out.trans (hb.mono HB.out.size)))) (hide hd) (hide (hP.out.below (HB.out.trans (hb.mono HB.out.size)))) (hl.2 y hy))))
      generalize hb2 : (x.parts.all partF) = z2 at HC
      have HZ2 := hide hb2
      clear hb2
      refine HC.out.mono ?_
      rintro e w3 ⟨rfl, hb⟩
      have HBn := hide (HB.out.trans (hb.mono HB.out.size))
      go_wp2_with fail
      go_ret
      exact ⟨by unfold modF; rw [HZ0.out, HZ1.out, HZ2.out]; rfl, HBn.out⟩
end Go.Proofs.YtndpnpohdoggjaaGreatDoor
namespace Go.Proofs.YtndpnpohdoggjaaGreatDoor
open Go.RowKit
attribute [local go_sem] Later.cell
def emptyF (l : List UInt8) : Bool := l.isEmpty || wordF l
set_option maxRecDepth 100000 in
set_option maxHeartbeats 4000000 in
theorem empty_any (s : ByteArray) (W : World) (hE : Hid (Env W)) :
    Calls Tryz.prog 106 #[.string s] W fun e w' => e = .returned (.bool (emptyF s.data.toList)) ∧ Below W.heap.size W w' := by
  have HC := hide (fword_any s W hE)
  by_cases h : s = ⟨#[]⟩
  · subst h
    go_enter Tryz.func106, Tryz.ntmps106
    go_wp2_with fail
    go_ret
    exact ⟨rfl, Below.refl _ _⟩
  · have h0 := ba_ne h
    have hF : emptyF s.data.toList = wordF s.data.toList := by
      rw [ByteArray.toList_eq] at h0
      unfold emptyF
      rw [h0]
      rfl
    rw [hF]
    clear hF h
    generalize wordF s.data.toList = z at *
    go_enter Tryz.func106, Tryz.ntmps106
    go_wp2_with fail
    refine HC.out.mono ?_
    rintro e w1 ⟨rfl, hb⟩
    have HB := hide hb
    go_wp2_with fail
    go_ret
    exact ⟨rfl, HB.out⟩
theorem const_ne (l : List UInt8) : (⟨l.toArray⟩ : ByteArray) = ⟨#[]⟩ ∧ (l != []) = false ∨ (⟨l.toArray⟩ : ByteArray).toList.isEmpty = false ∧ (l != []) = true := by
  by_cases h : l = []
  · exact .inl ⟨by rw [h], by rw [h]; rfl⟩
  · exact .inr ⟨ba_ne (fun e => h (by have := congrArg (fun b : ByteArray => b.data.toList) e; simpa using this)), by simpa using h⟩
def healthF (x : HealthD) : Bool := emptyF x.module && (emptyF x.part && ((wordN faultWords x.fault != []) && ((wordN levelWords x.level != []) && (wordN actionWords x.do_ != []))))
set_option maxRecDepth 100000 in
set_option maxHeartbeats 4000000 in
theorem f_health (x : HealthD) (us : List Value) (W : World) (hE : Hid (Env W)) (hP : Hid (EnvP W)) (hf : x.fault ≤ 255) (hl : x.level ≤ 255) (ha : x.do_ ≤ 255) (hd : Hid (DCells W (fun _ => True) us x.cells)) :
    Calls Tryz.prog 31 #[.agg us.toArray] W fun e w' => e = .returned (.bool (healthF x)) ∧ Below W.heap.size W w' := by
  have hd := hd.out
  obtain ⟨u0, us, rfl, h0, hd⟩ := dcells_cons hd
  obtain ⟨u1, us, rfl, h1, hd⟩ := dcells_cons hd
  obtain ⟨u2, us, rfl, h2, hd⟩ := dcells_cons hd
  obtain ⟨u3, us, rfl, h3, hd⟩ := dcells_cons hd
  obtain ⟨u4, us, rfl, h4, hd⟩ := dcells_cons hd
  obtain rfl := dcells_nil hd
  obtain rfl := h0.leaf_eq
  obtain rfl := h1.leaf_eq
  obtain rfl := h2.leaf_eq
  obtain rfl := h3.leaf_eq
  obtain rfl := h4.leaf_eq
  clear hd h0 h1 h2 h3 h4
  simp only [strV]
  have HX := hide (heap_alloc_new W (.cells #[.string ⟨x.module.toArray⟩, .string ⟨x.part.toArray⟩, .int .u8 (x.fault : Int), .int .u8 (x.level : Int), .int .u8 (x.do_ : Int)] 104))
  have HB := hide ((Below.refl W.heap.size W).alloc (Nat.le_refl _) (.cells #[.string ⟨x.module.toArray⟩, .string ⟨x.part.toArray⟩, .int .u8 (x.fault : Int), .int .u8 (x.level : Int), .int .u8 (x.do_ : Int)] 104))
  have H1 := hide (fun V (h : Hid (Env V)) => empty_any ⟨x.module.toArray⟩ V h)
  have H2 := hide (fun V (h : Hid (Env V)) => empty_any ⟨x.part.toArray⟩ V h)
  simp only at H1 H2
  have HFA := hide (fun V (h : Hid (EnvP V)) => fault_any x.fault V h.out hf)
  have HLE := hide (fun V (h : Hid (EnvP V)) => level_any x.level V h.out hl)
  have HAC := hide (fun V (h : Hid (EnvP V)) => action_any x.do_ V h.out ha)
  have HF := hide (show healthF x = (emptyF x.module && (emptyF x.part && ((wordN faultWords x.fault != []) && ((wordN levelWords x.level != []) && (wordN actionWords x.do_ != []))))) from rfl)
  have k3 := const_ne (wordN faultWords x.fault)
  have k4 := const_ne (wordN levelWords x.level)
  have k5 := const_ne (wordN actionWords x.do_)
  generalize emptyF x.module = z1 at *
  generalize emptyF x.part = z2 at *
  generalize (wordN faultWords x.fault != []) = z3 at *
  generalize (wordN levelWords x.level != []) = z4 at *
  generalize (wordN actionWords x.do_ != []) = z5 at *
  generalize (⟨(wordN faultWords x.fault).toArray⟩ : ByteArray) = F at *
  generalize (⟨(wordN levelWords x.level).toArray⟩ : ByteArray) = L at *
  generalize (⟨(wordN actionWords x.do_).toArray⟩ : ByteArray) = D at *
  generalize healthF x = z at *
  go_enter Tryz.func31, Tryz.ntmps31
  go_wp2_with fail
  generalize W.alloc (.cells #[.string ⟨x.module.toArray⟩, .string ⟨x.part.toArray⟩, .int .u8 (x.fault : Int), .int .u8 (x.level : Int), .int .u8 (x.do_ : Int)] 104) = w0 at *
  cases z1 with
  | false =>
    refine (H1.out w0 (hide (hE.out.kept HB.out))).mono ?_
    rintro e w1 ⟨rfl, hb⟩
    have HBn := hide (HB.out.trans (hb.mono HB.out.size))
    go_wp2_with fail
    go_ret
    exact ⟨by rw [HF.out]; rfl, HBn.out⟩
  | true =>
    refine (H1.out w0 (hide (hE.out.kept HB.out))).mono ?_
    rintro e w1 ⟨rfl, hb⟩
    have HBn := hide (HB.out.trans (hb.mono HB.out.size))
    have HXn := hide ((hb.block _ (Array.getElem?_eq_some_iff.1 HX.out).1).trans HX.out)
    clear HX HB hb H1
    have HX := HXn
    have HB := HBn
    clear HXn HBn
    have c0 := cell_of_row _ _ 0 _ _ _ HX.out
    have c1 := cell_of_row _ _ 1 _ _ _ HX.out
    have c2 := cell_of_row _ _ 2 _ _ _ HX.out
    have c3 := cell_of_row _ _ 3 _ _ _ HX.out
    have c4 := cell_of_row _ _ 4 _ _ _ HX.out
    go_wp2_with fail
    clear c0 c1 c2 c3 c4
    cases z2 with
    | false =>
      refine (H2.out w1 (hide (hE.out.kept HB.out))).mono ?_
      rintro e w2 ⟨rfl, hb⟩
      have HBn := hide (HB.out.trans (hb.mono HB.out.size))
      go_wp2_with fail
      go_ret
      exact ⟨by rw [HF.out]; rfl, HBn.out⟩
    | true =>
      refine (H2.out w1 (hide (hE.out.kept HB.out))).mono ?_
      rintro e w2 ⟨rfl, hb⟩
      have HBn := hide (HB.out.trans (hb.mono HB.out.size))
      have HXn := hide ((hb.block _ (Array.getElem?_eq_some_iff.1 HX.out).1).trans HX.out)
      clear HX HB hb H2
      have HX := HXn
      have HB := HBn
      clear HXn HBn
      have c0 := cell_of_row _ _ 0 _ _ _ HX.out
      have c1 := cell_of_row _ _ 1 _ _ _ HX.out
      have c2 := cell_of_row _ _ 2 _ _ _ HX.out
      have c3 := cell_of_row _ _ 3 _ _ _ HX.out
      have c4 := cell_of_row _ _ 4 _ _ _ HX.out
      go_wp2_with fail
      clear c0 c1 c2 c3 c4
      rcases k3 with ⟨rfl, rfl⟩ | ⟨j3, rfl⟩
      · refine (HFA.out w2 (hide (hP.out.below HB.out))).mono ?_
        rintro e w3 ⟨rfl, hb⟩
        have HBn := hide (HB.out.trans (hb.mono HB.out.size))
        go_wp2_with fail
        go_ret
        exact ⟨by rw [HF.out]; rfl, HBn.out⟩
      · refine (HFA.out w2 (hide (hP.out.below HB.out))).mono ?_
        rintro e w3 ⟨rfl, hb⟩
        have HBn := hide (HB.out.trans (hb.mono HB.out.size))
        have HXn := hide ((hb.block _ (Array.getElem?_eq_some_iff.1 HX.out).1).trans HX.out)
        clear HX HB hb HFA
        have HX := HXn
        have HB := HBn
        clear HXn HBn
        have c0 := cell_of_row _ _ 0 _ _ _ HX.out
        have c1 := cell_of_row _ _ 1 _ _ _ HX.out
        have c2 := cell_of_row _ _ 2 _ _ _ HX.out
        have c3 := cell_of_row _ _ 3 _ _ _ HX.out
        have c4 := cell_of_row _ _ 4 _ _ _ HX.out
        go_wp2_with fail
        clear c0 c1 c2 c3 c4
        rcases k4 with ⟨rfl, rfl⟩ | ⟨j4, rfl⟩
        · refine (HLE.out w3 (hide (hP.out.below HB.out))).mono ?_
          rintro e w4 ⟨rfl, hb⟩
          have HBn := hide (HB.out.trans (hb.mono HB.out.size))
          go_wp2_with fail
          go_ret
          exact ⟨by rw [HF.out]; rfl, HBn.out⟩
        · refine (HLE.out w3 (hide (hP.out.below HB.out))).mono ?_
          rintro e w4 ⟨rfl, hb⟩
          have HBn := hide (HB.out.trans (hb.mono HB.out.size))
          have HXn := hide ((hb.block _ (Array.getElem?_eq_some_iff.1 HX.out).1).trans HX.out)
          clear HX HB hb HLE
          have HX := HXn
          have HB := HBn
          clear HXn HBn
          have c0 := cell_of_row _ _ 0 _ _ _ HX.out
          have c1 := cell_of_row _ _ 1 _ _ _ HX.out
          have c2 := cell_of_row _ _ 2 _ _ _ HX.out
          have c3 := cell_of_row _ _ 3 _ _ _ HX.out
          have c4 := cell_of_row _ _ 4 _ _ _ HX.out
          go_wp2_with fail
          clear c0 c1 c2 c3 c4
          rcases k5 with ⟨rfl, rfl⟩ | ⟨j5, rfl⟩
          · refine (HAC.out w4 (hide (hP.out.below HB.out))).mono ?_
            rintro e w5 ⟨rfl, hb⟩
            have HBn := hide (HB.out.trans (hb.mono HB.out.size))
            go_wp2_with fail
            go_ret
            exact ⟨by rw [HF.out]; rfl, HBn.out⟩
          · refine (HAC.out w4 (hide (hP.out.below HB.out))).mono ?_
            rintro e w5 ⟨rfl, hb⟩
            have HBn := hide (HB.out.trans (hb.mono HB.out.size))
            go_wp2_with fail
            go_ret
            exact ⟨by rw [HF.out]; rfl, HBn.out⟩
end Go.Proofs.YtndpnpohdoggjaaGreatDoor
namespace Go.Proofs.YtndpnpohdoggjaaGreatDoor
open Go.RowKit
attribute [local go_sem] Later.cell
def txtF (l : List (List UInt8)) : List Value := l.map fun s => .string ⟨s.toArray⟩
theorem dat_reads {w : World} {A : Option Addr} {n q : Nat} {l : List (List UInt8)} (h : DAt w (fun _ => True) (.slice A n q) (.row 1 (strRows l))) : Reads w w.heap.size 1 A n (txtF l) := by
  generalize hd : Dat.row 1 (strRows l) = d at h
  generalize hv : Value.slice A n q = v at h
  cases h with
  | leaf v => cases hd
  | nil A' c size =>
    injection hd with _ h1
    injection hv with _ h2
    subst h2
    have : l = [] := by cases l with
      | nil => rfl
      | cons a l => simp [strRows] at h1
    subst this
    exact ⟨rfl, fun h => absurd h (by omega)⟩
  | row b off c size m es val hn hG hb hc hdd =>
    injection hd with h0 h1
    injection hv with h2 h3 h4
    subst h0 h1 h2 h3 h4
    have hl : l.length = n := by rw [← hn]; simp [strRows]
    refine ⟨by simp [txtF, hl], fun _ => ⟨_, rfl, hb, fun j u hu => ?_⟩⟩
    unfold txtF at hu
    rw [List.getElem?_map] at hu
    obtain ⟨s, hs, rfl⟩ := Option.map_eq_some_iff.1 hu
    have he : (strRows l)[j]? = some [lS s] := by unfold strRows; rw [List.getElem?_map, hs]; rfl
    have h5 := hc j 0 _ _ he rfl
    have h6 := (hdd j 0 _ _ he rfl).leaf_eq
    rw [h6] at h5
    rw [Nat.mul_one, Nat.add_zero] at h5
    refine Eq.trans ?_ h5
    congr 1
    unfold Addr.add
    split
    · rename_i h; rw [h]; rfl
    · simp
theorem own_txt {w : World} {base : Nat} {v : Value} {n : Nat} {l : List (List UInt8)} (h : w.ownsRow base 9 1 v n (txtF l)) : DAt w (fun _ => True) v (.row 1 (strRows l)) := by
  have hl : (strRows l).length = n := by have := h.1; simp [txtF] at this; simp [strRows, this]
  have hf : (strRows l).flatten = (txtF l).map Dat.leaf := flat_one _ l
  exact (own_dat (G := fun _ => True) hl (fun e he => by
    unfold strRows at he
    obtain ⟨s, _, rfl⟩ := List.mem_map.1 he
    rfl) h (by rw [hf]; exact dcells_leaves _)).mono fun _ _ _ => trivial
def causeF (x : CauseD) : Bool := (x.unit :: x.but).all wordF && (decide (0 < x.needs.length) && x.needs.all repF)
theorem str_any_info : (Tryz.prog.info? 9).map (fun i => (i.zero, i.size, i.bytes)) = some (some (.string ⟨#[]⟩), 1, 16) := by kernel_rfl
set_option maxRecDepth 100000 in
set_option maxHeartbeats 4000000 in
theorem f_cause (x : CauseD) (us : List Value) (W : World) (hE : Hid (Env W)) (hn : x.needs.length ≤ 140737488355328) (hb : x.but.length < 1000000000000) (hd : Hid (DCells W (fun _ => True) us x.cells)) :
    Calls Tryz.prog 33 #[.agg us.toArray] W fun e w' => e = .returned (.bool (causeF x)) ∧ Below W.heap.size W w' := by
  have hd := hd.out
  obtain ⟨u0, us, rfl, h0, hd⟩ := dcells_cons hd
  obtain ⟨u1, us, rfl, h1, hd⟩ := dcells_cons hd
  obtain ⟨u2, us, rfl, h2, hd⟩ := dcells_cons hd
  obtain rfl := dcells_nil hd
  obtain rfl := h0.leaf_eq
  have H1 := hide h1
  obtain ⟨A1, q1, rfl, -⟩ := h1.slice
  simp only [List.length_map] at H1 ⊢
  have H2 := hide h2
  obtain ⟨A2, q2, rfl, -⟩ := h2.slice
  rw [show (strRows x.but).length = x.but.length from by simp [strRows]] at H2 ⊢
  clear hd h0 h1 h2
  simp only [strV]
  obtain ⟨i0, hi0, hz0, hz1, hz2⟩ := info_parts str_any_info
  have HX := hide (heap_alloc_new W (.cells #[.string ⟨x.unit.toArray⟩, .slice A1 x.needs.length q1, .slice A2 x.but.length q2] 68))
  have HB := hide ((Below.refl W.heap.size W).alloc (Nat.le_refl _) (.cells #[.string ⟨x.unit.toArray⟩, .slice A1 x.needs.length q1, .slice A2 x.but.length q2] 68))
  go_enter Tryz.func33, Tryz.ntmps33
  go_wp2_with (at_builtin; apply Hid.out)
  have hzw : (W.alloc (.cells #[.string ⟨x.unit.toArray⟩, .slice A1 x.needs.length q1, .slice A2 x.but.length q2] 68)).heap.size = W.heap.size + 1 := by simp
  rw [← hzw]
  generalize W.alloc (.cells #[.string ⟨x.unit.toArray⟩, .slice A1 x.needs.length q1, .slice A2 x.but.length q2] 68) = w0 at *
  have hw0 : W.heap.size ≤ w0.heap.size := by omega
  have HO := hide (World.ownsRow_lit (base := W.heap.size) (e := 9) (size := 1) w0 #[.string ⟨x.unit.toArray⟩] 1 hw0 (by unfold maxLen; omega) rfl)
  have HRD := hide ((dat_reads (H2.out.later HB.out)).alloc (Nat.le_refl _) (.cells #[.string ⟨x.unit.toArray⟩] 9))
  have HX1 := hide ((Below.heap_alloc w0 (.cells #[.string ⟨x.unit.toArray⟩] 9) _ (Array.getElem?_eq_some_iff.1 HX.out).1).trans HX.out)
  have HB1 := hide (HB.out.alloc HB.out.size (.cells #[.string ⟨x.unit.toArray⟩] 9))
  have HBs := hide hw0
  have HZ := hide hzw
  clear HX HB hw0 hzw H2
  refine wpList_append_any _ rfl _ _ 66 rfl W.heap.size 9 i0 _ 1 16 Tryz.underlying66 hi0 hz0 hz1 hz2 rfl (by decide) (.slice (some ⟨w0.heap.size, 0, none⟩) 1 1) _ _ rfl HO.out _ A2 x.but.length q2 _ rfl HRD.out (fun u hu => by unfold txtF at hu; obtain ⟨s, _, rfl⟩ := List.mem_map.1 hu; rfl) (by unfold maxLen; omega) (by omega) (by have := HB1.out.size; omega) ?_
  intro v5 w1 hown hg hat
  have HD := hide (own_txt (l := x.unit :: x.but) hown)
  have HB2 := hide (HB1.out.grown hg HB1.out.size (fun g e => by injection e with e; subst e; exact HBs.out))
  have HX2 := hide ((hg.block W.heap.size (by have := (Array.getElem?_eq_some_iff.1 HX1.out).1; exact this) (fun e => by injection e with e; have e' : W.heap.size = w0.heap.size := e; have := HZ.out; omega)).trans HX1.out)
  clear HX1 HB1 hown hg hat HRD HO hi0 hz0 hz1 hz2
  have HW := hide (words_any _ _ _ HD (by simp; omega) (hide (hE.out.kept HB2.out)))
  have HF := hide (show causeF x = ((x.unit :: x.but).all wordF && (decide (0 < x.needs.length) && x.needs.all repF)) from rfl)
  have HRP := hide (fun w (hw : Below W.heap.size W w) => all_rep _ x.needs repF w (hide (H1.out.later hw)) hn (hide (fun y _ us w' hb hd => f_rep y us w' (hide (hE.out.kept (hw.trans (hb.mono hw.size)))) (hide hd))))
  generalize (x.unit :: x.but).all wordF = z1 at *
  generalize x.needs.all repF = z2 at *
  clear HD H1
  go_wp2_with fail
  refine HW.out.mono ?_
  rintro e w2 ⟨rfl, hb⟩
  have HB3 := hide (HB2.out.trans (hb.mono HB2.out.size))
  have HX3 := hide ((hb.block _ (Array.getElem?_eq_some_iff.1 HX2.out).1).trans HX2.out)
  clear hb HW HX2 HB2
  cases z1 with
  | false =>
    go_wp2_with fail
    go_ret
    exact ⟨by rw [HF.out]; rfl, HB3.out⟩
  | true =>
    have c1 := cell_of_row _ _ 1 _ _ _ HX3.out
    by_cases h0 : x.needs.length = 0
    · rw [h0] at c1 HF
      go_wp2_with fail
      go_ret
      exact ⟨by rw [HF.out]; rfl, HB3.out⟩
    · have h1 : (0 : Int) < (x.needs.length : Int) := by omega
      have HD1 := hide (show decide (0 < x.needs.length) = true by simp; omega)
      rw [HD1.out] at HF
      have HR := hide (HRP.out w2 HB3.out)
      clear h0 HRP HX3
      go_wp2_with fail
      refine HR.out.mono ?_
      rintro e w3 ⟨rfl, hb⟩
      have HB4 := hide (HB3.out.trans (hb.mono HB3.out.size))
      clear hb HR c1
      go_wp2_with fail
      go_ret
      exact ⟨by rw [HF.out]; rfl, HB4.out⟩
end Go.Proofs.YtndpnpohdoggjaaGreatDoor
namespace Go.Proofs.YtndpnpohdoggjaaGreatDoor
open Go.RowKit
attribute [local go_sem] Later.cell
def CauseFit (x : CauseD) : Prop := x.needs.length ≤ 140737488355328 ∧ x.but.length < 1000000000000
def HealthFit (x : HealthD) : Prop := x.fault ≤ 255 ∧ x.level ≤ 255 ∧ x.do_ ≤ 255
structure CfgFit (x : CfgD) : Prop where
  nm : x.modules.length ≤ 140737488355328
  m : ∀ y ∈ x.modules, ModFit y
  nc : x.channels.length ≤ 140737488355328
  c : ∀ y ∈ x.channels, y.to.length ≤ 140737488355328
  ns : x.switches.length ≤ 140737488355328
  nl : x.links.length ≤ 140737488355328
  nv : x.vls.length ≤ 140737488355328
  v : ∀ y ∈ x.vls, y.to.length ≤ 140737488355328
  nh : x.health.length ≤ 140737488355328
  h : ∀ y ∈ x.health, HealthFit y
  nk : x.causes.length ≤ 140737488355328
  k : ∀ y ∈ x.causes, CauseFit y
  nr : x.versions.length ≤ 140737488355328
def cfgF (x : CfgD) : Bool := x.modules.all modF && (x.channels.all chanF && (x.switches.all swF && (x.links.all linkF && (x.vls.all vlF && (x.health.all healthF && (x.causes.all causeF && (x.versions.all verF)))))))
set_option maxRecDepth 100000 in
set_option maxHeartbeats 4000000 in
theorem f_cfg (x : CfgD) (us : List Value) (W : World) (hE : Hid (Env W)) (hd : Hid (DCells W (fun _ => True) us x.cells)) (hP : Hid (EnvP W)) (hl : CfgFit x) :
    Calls Tryz.prog 8 #[.agg us.toArray] W fun e w' => e = .returned (.bool (cfgF x)) ∧ Below W.heap.size W w' := by
  have hd := hd.out
  obtain ⟨u0, us, rfl, h0, hd⟩ := dcells_cons hd
  obtain ⟨u1, us, rfl, h1, hd⟩ := dcells_cons hd
  obtain ⟨u2, us, rfl, h2, hd⟩ := dcells_cons hd
  obtain ⟨u3, us, rfl, h3, hd⟩ := dcells_cons hd
  obtain ⟨u4, us, rfl, h4, hd⟩ := dcells_cons hd
  obtain ⟨u5, us, rfl, h5, hd⟩ := dcells_cons hd
  obtain ⟨u6, us, rfl, h6, hd⟩ := dcells_cons hd
  obtain ⟨u7, us, rfl, h7, hd⟩ := dcells_cons hd
  obtain rfl := dcells_nil hd
  have H0 := hide h0
  obtain ⟨A0, q0, rfl, -⟩ := h0.slice
  simp only [List.length_map] at H0 ⊢
  have H1 := hide h1
  obtain ⟨A1, q1, rfl, -⟩ := h1.slice
  simp only [List.length_map] at H1 ⊢
  have H2 := hide h2
  obtain ⟨A2, q2, rfl, -⟩ := h2.slice
  simp only [List.length_map] at H2 ⊢
  have H3 := hide h3
  obtain ⟨A3, q3, rfl, -⟩ := h3.slice
  simp only [List.length_map] at H3 ⊢
  have H4 := hide h4
  obtain ⟨A4, q4, rfl, -⟩ := h4.slice
  simp only [List.length_map] at H4 ⊢
  have H5 := hide h5
  obtain ⟨A5, q5, rfl, -⟩ := h5.slice
  simp only [List.length_map] at H5 ⊢
  have H6 := hide h6
  obtain ⟨A6, q6, rfl, -⟩ := h6.slice
  simp only [List.length_map] at H6 ⊢
  have H7 := hide h7
  obtain ⟨A7, q7, rfl, -⟩ := h7.slice
  simp only [List.length_map] at H7 ⊢
  clear hd h0 h1 h2 h3 h4 h5 h6 h7
  have HX := hide (heap_alloc_new W (.cells #[.slice A0 x.modules.length q0, .slice A1 x.channels.length q1, .slice A2 x.switches.length q2, .slice A3 x.links.length q3, .slice A4 x.vls.length q4, .slice A5 x.health.length q5, .slice A6 x.causes.length q6, .slice A7 x.versions.length q7] 49))
  have HB := hide ((Below.refl W.heap.size W).alloc (Nat.le_refl _) (.cells #[.slice A0 x.modules.length q0, .slice A1 x.channels.length q1, .slice A2 x.switches.length q2, .slice A3 x.links.length q3, .slice A4 x.vls.length q4, .slice A5 x.health.length q5, .slice A6 x.causes.length q6, .slice A7 x.versions.length q7] 49))
  go_enter Tryz.func8, Tryz.ntmps8
  go_wp2_with fail
  generalize W.alloc (.cells #[.slice A0 x.modules.length q0, .slice A1 x.channels.length q1, .slice A2 x.switches.length q2, .slice A3 x.links.length q3, .slice A4 x.vls.length q4, .slice A5 x.health.length q5, .slice A6 x.causes.length q6, .slice A7 x.versions.length q7] 49) = w0 at *
  have HC := hide (all_mod _ x.modules modF w0 (hide (H0.out.later HB.out)) hl.nm (hide (fun y hy us w' hb hd => f_mod y us w' (hide (hE.out.kept (HB.out.trans (hb.mono HB.out.size)))) (hide hd) (hide (hP.out.below (HB.out.trans (hb.mono HB.out.size)))) (hl.m y hy))))
  generalize hb0 : (x.modules.all modF) = z0 at HC
  have HZ0 := hide hb0
  clear hb0
  cases z0 with
  | false =>
    refine HC.out.mono ?_
    rintro e w1 ⟨rfl, hb⟩
    have HBn := hide (HB.out.trans (hb.mono HB.out.size))
    go_wp2_with fail
    go_ret
    exact ⟨by unfold cfgF; rw [HZ0.out]; rfl, HBn.out⟩
  | true =>
    refine HC.out.mono ?_
    rintro e w1 ⟨rfl, hb⟩
    have HBn := hide (HB.out.trans (hb.mono HB.out.size))
    have HXn := hide ((hb.block _ (Array.getElem?_eq_some_iff.1 HX.out).1).trans HX.out)
    clear HX HB HC hb
    have HX := HXn
    have HB := HBn
    clear HXn HBn
    have c0 := cell_of_row _ _ 0 _ _ _ HX.out
    have c1 := cell_of_row _ _ 1 _ _ _ HX.out
    have c2 := cell_of_row _ _ 2 _ _ _ HX.out
    have c3 := cell_of_row _ _ 3 _ _ _ HX.out
    have c4 := cell_of_row _ _ 4 _ _ _ HX.out
    have c5 := cell_of_row _ _ 5 _ _ _ HX.out
    have c6 := cell_of_row _ _ 6 _ _ _ HX.out
    have c7 := cell_of_row _ _ 7 _ _ _ HX.out
    go_wp2_with fail
    clear c0 c1 c2 c3 c4 c5 c6 c7
    have HC := hide (all_chan _ x.channels chanF w1 (hide (H1.out.later HB.out)) hl.nc (hide (fun y hy us w' hb hd => f_chan y us w' (hide (hE.out.kept (HB.out.trans (hb.mono HB.out.size)))) (hide hd) (hl.c y hy))))
    generalize hb1 : (x.channels.all chanF) = z1 at HC
    have HZ1 := hide hb1
    clear hb1
    cases z1 with
    | false =>
      refine HC.out.mono ?_
      rintro e w2 ⟨rfl, hb⟩
      have HBn := hide (HB.out.trans (hb.mono HB.out.size))
      go_wp2_with fail
      go_ret
      exact ⟨by unfold cfgF; rw [HZ0.out, HZ1.out]; rfl, HBn.out⟩
    | true =>
      refine HC.out.mono ?_
      rintro e w2 ⟨rfl, hb⟩
      have HBn := hide (HB.out.trans (hb.mono HB.out.size))
      have HXn := hide ((hb.block _ (Array.getElem?_eq_some_iff.1 HX.out).1).trans HX.out)
      clear HX HB HC hb
      have HX := HXn
      have HB := HBn
      clear HXn HBn
      have c0 := cell_of_row _ _ 0 _ _ _ HX.out
      have c1 := cell_of_row _ _ 1 _ _ _ HX.out
      have c2 := cell_of_row _ _ 2 _ _ _ HX.out
      have c3 := cell_of_row _ _ 3 _ _ _ HX.out
      have c4 := cell_of_row _ _ 4 _ _ _ HX.out
      have c5 := cell_of_row _ _ 5 _ _ _ HX.out
      have c6 := cell_of_row _ _ 6 _ _ _ HX.out
      have c7 := cell_of_row _ _ 7 _ _ _ HX.out
      go_wp2_with fail
      clear c0 c1 c2 c3 c4 c5 c6 c7
      have HC := hide (all_sw _ x.switches swF w2 (hide (H2.out.later HB.out)) hl.ns (hide (fun y hy us w' hb hd => f_sw y us w' (hide (hE.out.kept (HB.out.trans (hb.mono HB.out.size)))) (hide hd))))
      generalize hb2 : (x.switches.all swF) = z2 at HC
      have HZ2 := hide hb2
      clear hb2
      cases z2 with
      | false =>
        refine HC.out.mono ?_
        rintro e w3 ⟨rfl, hb⟩
        have HBn := hide (HB.out.trans (hb.mono HB.out.size))
        go_wp2_with fail
        go_ret
        exact ⟨by unfold cfgF; rw [HZ0.out, HZ1.out, HZ2.out]; rfl, HBn.out⟩
      | true =>
        refine HC.out.mono ?_
        rintro e w3 ⟨rfl, hb⟩
        have HBn := hide (HB.out.trans (hb.mono HB.out.size))
        have HXn := hide ((hb.block _ (Array.getElem?_eq_some_iff.1 HX.out).1).trans HX.out)
        clear HX HB HC hb
        have HX := HXn
        have HB := HBn
        clear HXn HBn
        have c0 := cell_of_row _ _ 0 _ _ _ HX.out
        have c1 := cell_of_row _ _ 1 _ _ _ HX.out
        have c2 := cell_of_row _ _ 2 _ _ _ HX.out
        have c3 := cell_of_row _ _ 3 _ _ _ HX.out
        have c4 := cell_of_row _ _ 4 _ _ _ HX.out
        have c5 := cell_of_row _ _ 5 _ _ _ HX.out
        have c6 := cell_of_row _ _ 6 _ _ _ HX.out
        have c7 := cell_of_row _ _ 7 _ _ _ HX.out
        go_wp2_with fail
        clear c0 c1 c2 c3 c4 c5 c6 c7
        have HC := hide (all_link _ x.links linkF w3 (hide (H3.out.later HB.out)) hl.nl (hide (fun y hy us w' hb hd => f_link y us w' (hide (hE.out.kept (HB.out.trans (hb.mono HB.out.size)))) (hide hd))))
        generalize hb3 : (x.links.all linkF) = z3 at HC
        have HZ3 := hide hb3
        clear hb3
        cases z3 with
        | false =>
          refine HC.out.mono ?_
          rintro e w4 ⟨rfl, hb⟩
          have HBn := hide (HB.out.trans (hb.mono HB.out.size))
          go_wp2_with fail
          go_ret
          exact ⟨by unfold cfgF; rw [HZ0.out, HZ1.out, HZ2.out, HZ3.out]; rfl, HBn.out⟩
        | true =>
          refine HC.out.mono ?_
          rintro e w4 ⟨rfl, hb⟩
          have HBn := hide (HB.out.trans (hb.mono HB.out.size))
          have HXn := hide ((hb.block _ (Array.getElem?_eq_some_iff.1 HX.out).1).trans HX.out)
          clear HX HB HC hb
          have HX := HXn
          have HB := HBn
          clear HXn HBn
          have c0 := cell_of_row _ _ 0 _ _ _ HX.out
          have c1 := cell_of_row _ _ 1 _ _ _ HX.out
          have c2 := cell_of_row _ _ 2 _ _ _ HX.out
          have c3 := cell_of_row _ _ 3 _ _ _ HX.out
          have c4 := cell_of_row _ _ 4 _ _ _ HX.out
          have c5 := cell_of_row _ _ 5 _ _ _ HX.out
          have c6 := cell_of_row _ _ 6 _ _ _ HX.out
          have c7 := cell_of_row _ _ 7 _ _ _ HX.out
          go_wp2_with fail
          clear c0 c1 c2 c3 c4 c5 c6 c7
          have HC := hide (all_vl _ x.vls vlF w4 (hide (H4.out.later HB.out)) hl.nv (hide (fun y hy us w' hb hd => f_vl y us w' (hide (hE.out.kept (HB.out.trans (hb.mono HB.out.size)))) (hide hd) (hl.v y hy))))
          generalize hb4 : (x.vls.all vlF) = z4 at HC
          have HZ4 := hide hb4
          clear hb4
          cases z4 with
          | false =>
            refine HC.out.mono ?_
            rintro e w5 ⟨rfl, hb⟩
            have HBn := hide (HB.out.trans (hb.mono HB.out.size))
            go_wp2_with fail
            go_ret
            exact ⟨by unfold cfgF; rw [HZ0.out, HZ1.out, HZ2.out, HZ3.out, HZ4.out]; rfl, HBn.out⟩
          | true =>
            refine HC.out.mono ?_
            rintro e w5 ⟨rfl, hb⟩
            have HBn := hide (HB.out.trans (hb.mono HB.out.size))
            have HXn := hide ((hb.block _ (Array.getElem?_eq_some_iff.1 HX.out).1).trans HX.out)
            clear HX HB HC hb
            have HX := HXn
            have HB := HBn
            clear HXn HBn
            have c0 := cell_of_row _ _ 0 _ _ _ HX.out
            have c1 := cell_of_row _ _ 1 _ _ _ HX.out
            have c2 := cell_of_row _ _ 2 _ _ _ HX.out
            have c3 := cell_of_row _ _ 3 _ _ _ HX.out
            have c4 := cell_of_row _ _ 4 _ _ _ HX.out
            have c5 := cell_of_row _ _ 5 _ _ _ HX.out
            have c6 := cell_of_row _ _ 6 _ _ _ HX.out
            have c7 := cell_of_row _ _ 7 _ _ _ HX.out
            go_wp2_with fail
            clear c0 c1 c2 c3 c4 c5 c6 c7
            have HC := hide (all_health _ x.health healthF w5 (hide (H5.out.later HB.out)) hl.nh (hide (fun y hy us w' hb hd => f_health y us w' (hide (hE.out.kept (HB.out.trans (hb.mono HB.out.size)))) (hide (hP.out.below (HB.out.trans (hb.mono HB.out.size)))) (hl.h y hy).1 (hl.h y hy).2.1 (hl.h y hy).2.2 (hide hd))))
            generalize hb5 : (x.health.all healthF) = z5 at HC
            have HZ5 := hide hb5
            clear hb5
            cases z5 with
            | false =>
              refine HC.out.mono ?_
              rintro e w6 ⟨rfl, hb⟩
              have HBn := hide (HB.out.trans (hb.mono HB.out.size))
              go_wp2_with fail
              go_ret
              exact ⟨by unfold cfgF; rw [HZ0.out, HZ1.out, HZ2.out, HZ3.out, HZ4.out, HZ5.out]; rfl, HBn.out⟩
            | true =>
              refine HC.out.mono ?_
              rintro e w6 ⟨rfl, hb⟩
              have HBn := hide (HB.out.trans (hb.mono HB.out.size))
              have HXn := hide ((hb.block _ (Array.getElem?_eq_some_iff.1 HX.out).1).trans HX.out)
              clear HX HB HC hb
              have HX := HXn
              have HB := HBn
              clear HXn HBn
              have c0 := cell_of_row _ _ 0 _ _ _ HX.out
              have c1 := cell_of_row _ _ 1 _ _ _ HX.out
              have c2 := cell_of_row _ _ 2 _ _ _ HX.out
              have c3 := cell_of_row _ _ 3 _ _ _ HX.out
              have c4 := cell_of_row _ _ 4 _ _ _ HX.out
              have c5 := cell_of_row _ _ 5 _ _ _ HX.out
              have c6 := cell_of_row _ _ 6 _ _ _ HX.out
              have c7 := cell_of_row _ _ 7 _ _ _ HX.out
              go_wp2_with fail
              clear c0 c1 c2 c3 c4 c5 c6 c7
              have HC := hide (all_cause _ x.causes causeF w6 (hide (H6.out.later HB.out)) hl.nk (hide (fun y hy us w' hb hd => f_cause y us w' (hide (hE.out.kept (HB.out.trans (hb.mono HB.out.size)))) (hl.k y hy).1 (hl.k y hy).2 (hide hd))))
              generalize hb6 : (x.causes.all causeF) = z6 at HC
              have HZ6 := hide hb6
              clear hb6
              cases z6 with
              | false =>
                refine HC.out.mono ?_
                rintro e w7 ⟨rfl, hb⟩
                have HBn := hide (HB.out.trans (hb.mono HB.out.size))
                go_wp2_with fail
                go_ret
                exact ⟨by unfold cfgF; rw [HZ0.out, HZ1.out, HZ2.out, HZ3.out, HZ4.out, HZ5.out, HZ6.out]; rfl, HBn.out⟩
              | true =>
                refine HC.out.mono ?_
                rintro e w7 ⟨rfl, hb⟩
                have HBn := hide (HB.out.trans (hb.mono HB.out.size))
                have HXn := hide ((hb.block _ (Array.getElem?_eq_some_iff.1 HX.out).1).trans HX.out)
                clear HX HB HC hb
                have HX := HXn
                have HB := HBn
                clear HXn HBn
                have c0 := cell_of_row _ _ 0 _ _ _ HX.out
                have c1 := cell_of_row _ _ 1 _ _ _ HX.out
                have c2 := cell_of_row _ _ 2 _ _ _ HX.out
                have c3 := cell_of_row _ _ 3 _ _ _ HX.out
                have c4 := cell_of_row _ _ 4 _ _ _ HX.out
                have c5 := cell_of_row _ _ 5 _ _ _ HX.out
                have c6 := cell_of_row _ _ 6 _ _ _ HX.out
                have c7 := cell_of_row _ _ 7 _ _ _ HX.out
                go_wp2_with fail
                clear c0 c1 c2 c3 c4 c5 c6 c7
                have HC := hide (all_ver _ x.versions verF w7 (hide (H7.out.later HB.out)) hl.nr (hide (fun y hy us w' hb hd => f_ver y us w' (hide (hE.out.kept (HB.out.trans (hb.mono HB.out.size)))) (hide hd))))
                generalize hb7 : (x.versions.all verF) = z7 at HC
                have HZ7 := hide hb7
                clear hb7
                refine HC.out.mono ?_
                rintro e w8 ⟨rfl, hb⟩
                have HBn := hide (HB.out.trans (hb.mono HB.out.size))
                go_wp2_with fail
                go_ret
                exact ⟨by unfold cfgF; rw [HZ0.out, HZ1.out, HZ2.out, HZ3.out, HZ4.out, HZ5.out, HZ6.out, HZ7.out]; rfl, HBn.out⟩
end Go.Proofs.YtndpnpohdoggjaaGreatDoor
