/-
  Merged texts: format: the predicates on records. | format: the predicates on records.
-/
import Derived.Test.YtndpnpohdoggjaaGreatDoorPk9
import Derived.Test.YtndpnpohdoggjaaGreatDoorPk10
namespace Go.Proofs.YtndpnpohdoggjaaGreatDoor
open Go.RowKit
attribute [local go_sem] Later.cell
theorem dcells_cons {w : World} {G : Nat → Prop} {us : List Value} {d : Dat} {ds : List Dat} (h : DCells w G us (d :: ds)) : ∃ u us', us = u :: us' ∧ DAt w G u d ∧ DCells w G us' ds := by
  obtain ⟨hl, hc⟩ := h
  cases us with
  | nil => simp at hl
  | cons u us => exact ⟨u, us, rfl, hc 0 u d rfl rfl, by simpa using hl, fun j v e hv he => hc (j + 1) v e (by simpa using hv) (by simpa using he)⟩
theorem dcells_nil {w : World} {G : Nat → Prop} {us : List Value} (h : DCells w G us []) : us = [] := List.eq_nil_of_length_eq_zero h.1
theorem DAt.block {w : World} {b : Nat} {cs : Array Value} {t : TypeId} {fr : Nat × Nat} {size n c : Nat} {es : List (List Dat)} {G : Nat → Prop} (h : w.heap[b]? = some (.cells cs t fr)) (hn : es.length = n) (hw : ∀ e ∈ es, e.length = size) (hc : DCells w G cs.toList es.flatten) (hG : G b) (hcap : n ≤ c := by omega) : DAt w G (.slice (some ⟨b, 0, none⟩) n c) (.row size es) := by
  have hv : ∃ val : Nat → Nat → Value, ∀ i j e d, es[i]? = some e → e[j]? = some d → w.cell? ⟨b, 0 + i * size + j, none⟩ = some (val i j) ∧ DAt w G (val i j) d := by
    refine ⟨fun i j => (cs[i * size + j]?).getD (.bool false), fun i j e d he hd => ?_⟩
    have hj : j < size := by rw [← hw e (List.mem_of_getElem? he)]; exact (List.getElem?_eq_some_iff.1 hd).1
    have hf := flat_at es hw i j e he hj
    rw [hd] at hf
    have hlt := (List.getElem?_eq_some_iff.1 hf).1
    have hcl : i * size + j < cs.size := by rw [← Array.length_toList, hc.1]; exact hlt
    have hcell := cell_of_row w b (i * size + j) _ _ _ h
    have hg : (cs[i * size + j]?).getD (.bool false) = cs[i * size + j] := by rw [Array.getElem?_eq_getElem hcl]; rfl
    show w.cell? ⟨b, 0 + i * size + j, none⟩ = some ((cs[i * size + j]?).getD (.bool false)) ∧ DAt w G ((cs[i * size + j]?).getD (.bool false)) d
    rw [hg, Nat.zero_add, hcell, Array.getElem?_eq_getElem hcl]
    exact ⟨rfl, hc.2 _ _ d (by rw [Array.getElem?_toList, Array.getElem?_eq_getElem hcl]) hf⟩
  obtain ⟨val, hval⟩ := hv
  exact .row b 0 c size n es val hn hG (Array.getElem?_eq_some_iff.1 h).1 (fun i j e d he hd => (hval i j e d he hd).1) (fun i j e d he hd => (hval i j e d he hd).2) hcap
theorem dcells_leaves {w : World} {G : Nat → Prop} (l : List Value) : DCells w G l (l.map Dat.leaf) := ⟨by simp, fun j u d hu hd => by
  rw [List.getElem?_map, hu] at hd
  injection hd with hd
  subst hd
  exact .leaf u⟩
theorem flat_one {α : Type} (f : α → Value) (l : List α) : (l.map fun s => [Dat.leaf (f s)]).flatten = (l.map f).map Dat.leaf := by
  induction l with
  | nil => rfl
  | cons a l ih => simp only [List.map_cons, List.flatten_cons, ih]; rfl
/-- A slice made of values. -/
theorem dat_new {α : Type} (f : α → Value) (w : World) (l : List α) (T : TypeId) : DAt (w.alloc (.cells (l.map f).toArray T)) (fun _ => True) (.slice (some ⟨w.heap.size, 0, none⟩) l.length l.length) (.row 1 (l.map fun s => [Dat.leaf (f s)])) :=
  DAt.block (heap_alloc_new w _) (by simp) (fun e he => by obtain ⟨_, _, rfl⟩ := List.mem_map.1 he; rfl) (by rw [flat_one]; exact dcells_leaves _) trivial
theorem dat_strs (w : World) (l : List (List UInt8)) (T : TypeId) : DAt (w.alloc (.cells (l.map fun s => Value.string ⟨s.toArray⟩).toArray T)) (fun _ => True) (.slice (some ⟨w.heap.size, 0, none⟩) l.length l.length) (.row 1 (strRows l)) := dat_new _ w l T
theorem dat_ints (w : World) (l : List Int) (T : TypeId) : DAt (w.alloc (.cells (l.map fun n => Value.int .i64 n).toArray T)) (fun _ => True) (.slice (some ⟨w.heap.size, 0, none⟩) l.length l.length) (.row 1 (intRows l)) := dat_new _ w l T
def refF (x : RefD) : Bool := [x.m, x.p, x.o].all wordF
set_option maxRecDepth 100000 in
set_option maxHeartbeats 4000000 in
theorem f_ref (x : RefD) (us : List Value) (W : World) (hE : Hid (Env W)) (hd : Hid (DCells W (fun _ => True) us x.cells)) :
    Calls Tryz.prog 151 #[.agg us.toArray] W fun e w' => e = .returned (.bool (refF x)) ∧ Below W.heap.size W w' := by
  have hd := hd.out
  obtain ⟨u0, us, rfl, h0, hd⟩ := dcells_cons hd
  obtain ⟨u1, us, rfl, h1, hd⟩ := dcells_cons hd
  obtain ⟨u2, us, rfl, h2, hd⟩ := dcells_cons hd
  obtain rfl := dcells_nil hd
  obtain rfl := h0.leaf_eq
  obtain rfl := h1.leaf_eq
  obtain rfl := h2.leaf_eq
  clear hd h0 h1 h2
  simp only [strV]
  have HB := hide (((Below.refl W.heap.size W).alloc (Nat.le_refl _) (.cells #[.string ⟨x.m.toArray⟩, .string ⟨x.p.toArray⟩, .string ⟨x.o.toArray⟩] 57)).alloc (by simp) (.cells #[.string ⟨x.m.toArray⟩, .string ⟨x.p.toArray⟩, .string ⟨x.o.toArray⟩] 9))
  have HW := hide (words_any (.slice (some ⟨W.heap.size + 1, 0, none⟩) 3 3) [x.m, x.p, x.o] ((W.alloc (.cells #[.string ⟨x.m.toArray⟩, .string ⟨x.p.toArray⟩, .string ⟨x.o.toArray⟩] 57)).alloc (.cells #[.string ⟨x.m.toArray⟩, .string ⟨x.p.toArray⟩, .string ⟨x.o.toArray⟩] 9))
    (hide (by have h := dat_strs (W.alloc (.cells #[.string ⟨x.m.toArray⟩, .string ⟨x.p.toArray⟩, .string ⟨x.o.toArray⟩] 57)) [x.m, x.p, x.o] 9; rw [World.size_alloc] at h; exact h)) (by simp) (hide (hE.out.kept HB.out)))
  generalize hz : [x.m, x.p, x.o].all wordF = z at HW
  have HF := hide (show refF x = z from hz)
  clear hz
  go_enter Tryz.func151, Tryz.ntmps151
  go_wp2_with fail
  refine HW.out.mono ?_
  rintro e w1 ⟨rfl, hb⟩
  have HB2 := hide (HB.out.trans (hb.mono HB.out.size))
  clear hb HW
  go_wp2_with fail
  go_ret
  exact ⟨by rw [HF.out]; rfl, HB2.out⟩
def endsF (r : RefD) (l : List RefD) : Bool := refF r && (decide (0 < l.length) && l.all refF)
set_option maxRecDepth 100000 in
set_option maxHeartbeats 4000000 in
theorem ends_any (r : RefD) (v : Value) (l : List RefD) (W : World) (hE : Hid (Env W)) (hv : Hid (DAt W (fun _ => True) v (.row 3 (l.map RefD.cells)))) (hl : l.length ≤ 140737488355328) :
    Calls Tryz.prog 96 #[.agg #[.string ⟨r.m.toArray⟩, .string ⟨r.p.toArray⟩, .string ⟨r.o.toArray⟩], v] W fun e w' => e = .returned (.bool (endsF r l)) ∧ Below W.heap.size W w' := by
  obtain ⟨A, q, rfl, -⟩ := hv.out.slice
  rw [List.length_map] at *
  have HB := hide ((Below.refl W.heap.size W).alloc (Nat.le_refl _) (.cells #[.string ⟨r.m.toArray⟩, .string ⟨r.p.toArray⟩, .string ⟨r.o.toArray⟩] 57))
  have HD : ∀ w : World, DCells w (fun _ => True) [.string ⟨r.m.toArray⟩, .string ⟨r.p.toArray⟩, .string ⟨r.o.toArray⟩] r.cells := fun w => DCells.cons (.leaf _) (DCells.cons (.leaf _) (DCells.cons (.leaf _) .nil))
  have HR := hide (f_ref r [.string ⟨r.m.toArray⟩, .string ⟨r.p.toArray⟩, .string ⟨r.o.toArray⟩] _ (hide (hE.out.kept HB.out)) (hide (HD _)))
  have HA := hide (fun w1 (hb : Below W.heap.size W w1) => all_ref (.slice A l.length q) l refF w1 (hide (hv.out.later hb)) hl (hide (fun y hy us w' hb' hd => f_ref y us w' (hide (hE.out.kept (hb.trans (hb'.mono hb.size)))) (hide hd))))
  have HF := hide (show endsF r l = (refF r && (decide (0 < l.length) && l.all refF)) from rfl)
  clear hv HD
  generalize refF r = z0 at HR HF
  generalize l.all refF = z1 at HA HF
  by_cases h0 : 0 < l.length
  · have g0 : (0 : Int) < (l.length : Int) := by omega
    rw [show decide (0 < l.length) = true by simpa using h0] at HF
    cases z0 with
    | false =>
      go_enter Tryz.func96, Tryz.ntmps96
      go_wp2_with fail
      refine HR.out.mono ?_
      rintro e w1 ⟨rfl, hb⟩
      have HB2 := hide (HB.out.trans (hb.mono HB.out.size))
      clear hb HR HA
      go_wp2_with fail
      go_ret
      exact ⟨by rw [HF.out]; rfl, HB2.out⟩
    | true =>
      go_enter Tryz.func96, Tryz.ntmps96
      go_wp2_with fail
      refine HR.out.mono ?_
      rintro e w1 ⟨rfl, hb⟩
      have HB2 := hide (HB.out.trans (hb.mono HB.out.size))
      clear hb HR
      go_wp2_with fail
      refine (HA.out _ HB2.out).mono ?_
      rintro e w2 ⟨rfl, hb⟩
      have HB3 := hide (HB2.out.trans (hb.mono HB2.out.size))
      clear hb HA
      go_wp2_with fail
      go_ret
      exact ⟨by rw [HF.out]; rfl, HB3.out⟩
  · have g0 : ¬ (0 : Int) < (l.length : Int) := by omega
    rw [show decide (0 < l.length) = false by simpa using h0] at HF
    clear HA
    cases z0 <;>
    · go_enter Tryz.func96, Tryz.ntmps96
      go_wp2_with fail
      refine HR.out.mono ?_
      rintro e w1 ⟨rfl, hb⟩
      have HB2 := hide (HB.out.trans (hb.mono HB.out.size))
      clear hb HR
      go_wp2_with fail
      go_ret
      exact ⟨by rw [HF.out]; rfl, HB2.out⟩
end Go.Proofs.YtndpnpohdoggjaaGreatDoor
namespace Go.Proofs.YtndpnpohdoggjaaGreatDoor
open Go.RowKit
attribute [local go_sem] Later.cell
def repF (x : RepD) : Bool := wordF x.unit && ([x.code].all numF)
set_option maxRecDepth 100000 in
set_option maxHeartbeats 4000000 in
theorem f_rep (x : RepD) (us : List Value) (W : World) (hE : Hid (Env W)) (hd : Hid (DCells W (fun _ => True) us x.cells)) :
    Calls Tryz.prog 113 #[.agg us.toArray] W fun e w' => e = .returned (.bool (repF x)) ∧ Below W.heap.size W w' := by
  have hd := hd.out
  obtain ⟨u0, us, rfl, h0, hd⟩ := dcells_cons hd
  obtain ⟨u1, us, rfl, h1, hd⟩ := dcells_cons hd
  obtain rfl := dcells_nil hd
  obtain rfl := h0.leaf_eq
  obtain rfl := h1.leaf_eq
  clear hd h0 h1
  simp only [strV]
  have HX := hide (heap_alloc_new W (.cells #[.string ⟨x.unit.toArray⟩, .int .i64 x.code] 64))
  have HB := hide ((Below.refl W.heap.size W).alloc (Nat.le_refl _) (.cells #[.string ⟨x.unit.toArray⟩, .int .i64 x.code] 64))
  go_enter Tryz.func113, Tryz.ntmps113
  go_wp2_with fail
  generalize W.alloc (.cells #[.string ⟨x.unit.toArray⟩, .int .i64 x.code] 64) = w0 at *
  have HC := hide (fword_any ⟨x.unit.toArray⟩ w0 (hide (hE.out.kept HB.out)))
  simp only at HC
  generalize hb0 : (wordF x.unit) = z0 at HC
  have HZ0 := hide hb0
  clear hb0
  cases z0 with
  | false =>
    refine HC.out.mono ?_
    rintro e w1 ⟨rfl, hb⟩
    have HBn := hide (HB.out.trans (hb.mono HB.out.size))
    go_wp2_with fail
    go_ret
    exact ⟨by unfold repF; rw [HZ0.out]; rfl, HBn.out⟩
  | true =>
    refine HC.out.mono ?_
    rintro e w1 ⟨rfl, hb⟩
    have HBn := hide (HB.out.trans (hb.mono HB.out.size))
    have HXn := hide ((hb.block _ (Array.getElem?_eq_some_iff.1 HX.out).1).trans HX.out)
    clear HX HB HC hb
    have HX := HXn
    have HB := HBn
    clear HXn HBn
    have c0 := cell_of_row _ _ 0 _ _ _ HX.out
    have c1 := cell_of_row _ _ 1 _ _ _ HX.out
    go_wp2_with fail
    clear c0 c1
    have HBa := hide (HB.out.alloc HB.out.size (.cells #[.int .i64 x.code] 3))
    have HC := hide (nums_any (.slice (some ⟨w1.heap.size, 0, none⟩) 1 1) [x.code] (w1.alloc (.cells #[.int .i64 x.code] 3)) (hide (dat_ints w1 [x.code] 3)) (by simp))
    generalize hb1 : ([x.code].all numF) = z1 at HC
    have HZ1 := hide hb1
    clear hb1
    refine HC.out.mono ?_
    rintro e w2 ⟨rfl, hb⟩
    have HBn := hide (HBa.out.trans (hb.mono HBa.out.size))
    go_wp2_with fail
    go_ret
    exact ⟨by unfold repF; rw [HZ0.out, HZ1.out]; rfl, HBn.out⟩
def verF (x : VerD) : Bool := [x.a, x.b].all wordF && ([x.va, x.vb].all numF)
set_option maxRecDepth 100000 in
set_option maxHeartbeats 4000000 in
theorem f_ver (x : VerD) (us : List Value) (W : World) (hE : Hid (Env W)) (hd : Hid (DCells W (fun _ => True) us x.cells)) :
    Calls Tryz.prog 35 #[.agg us.toArray] W fun e w' => e = .returned (.bool (verF x)) ∧ Below W.heap.size W w' := by
  have hd := hd.out
  obtain ⟨u0, us, rfl, h0, hd⟩ := dcells_cons hd
  obtain ⟨u1, us, rfl, h1, hd⟩ := dcells_cons hd
  obtain ⟨u2, us, rfl, h2, hd⟩ := dcells_cons hd
  obtain ⟨u3, us, rfl, h3, hd⟩ := dcells_cons hd
  obtain rfl := dcells_nil hd
  obtain rfl := h0.leaf_eq
  obtain rfl := h1.leaf_eq
  obtain rfl := h2.leaf_eq
  obtain rfl := h3.leaf_eq
  clear hd h0 h1 h2 h3
  simp only [strV]
  have HX := hide (heap_alloc_new W (.cells #[.string ⟨x.a.toArray⟩, .int .i64 x.va, .string ⟨x.b.toArray⟩, .int .i64 x.vb] 110))
  have HB := hide ((Below.refl W.heap.size W).alloc (Nat.le_refl _) (.cells #[.string ⟨x.a.toArray⟩, .int .i64 x.va, .string ⟨x.b.toArray⟩, .int .i64 x.vb] 110))
  go_enter Tryz.func35, Tryz.ntmps35
  go_wp2_with fail
  have hzw : (W.alloc (.cells #[.string ⟨x.a.toArray⟩, .int .i64 x.va, .string ⟨x.b.toArray⟩, .int .i64 x.vb] 110)).heap.size = W.heap.size + 1 := by simp
  generalize W.alloc (.cells #[.string ⟨x.a.toArray⟩, .int .i64 x.va, .string ⟨x.b.toArray⟩, .int .i64 x.vb] 110) = w0 at *
  have HBa := hide (HB.out.alloc HB.out.size (.cells #[.string ⟨x.a.toArray⟩, .string ⟨x.b.toArray⟩] 9))
  have HC := hide (words_any (.slice (some ⟨w0.heap.size, 0, none⟩) 2 2) [x.a, x.b] (w0.alloc (.cells #[.string ⟨x.a.toArray⟩, .string ⟨x.b.toArray⟩] 9)) (hide (dat_strs w0 [x.a, x.b] 9)) (by simp) (hide (hE.out.kept HBa.out)))
  rw [hzw] at HC
  clear hzw
  generalize hb0 : ([x.a, x.b].all wordF) = z0 at HC
  have HZ0 := hide hb0
  clear hb0
  cases z0 with
  | false =>
    refine HC.out.mono ?_
    rintro e w1 ⟨rfl, hb⟩
    have HBn := hide (HBa.out.trans (hb.mono HBa.out.size))
    go_wp2_with fail
    go_ret
    exact ⟨by unfold verF; rw [HZ0.out]; rfl, HBn.out⟩
  | true =>
    refine HC.out.mono ?_
    rintro e w1 ⟨rfl, hb⟩
    have HBn := hide (HBa.out.trans (hb.mono HBa.out.size))
    have HXn := hide ((hb.block _ (by have := (Array.getElem?_eq_some_iff.1 HX.out).1; simp; omega)).trans ((Below.heap_alloc _ _ _ (Array.getElem?_eq_some_iff.1 HX.out).1).trans HX.out))
    clear HX HB HC hb HBa
    have HX := HXn
    have HB := HBn
    clear HXn HBn
    have c0 := cell_of_row _ _ 0 _ _ _ HX.out
    have c1 := cell_of_row _ _ 1 _ _ _ HX.out
    have c2 := cell_of_row _ _ 2 _ _ _ HX.out
    have c3 := cell_of_row _ _ 3 _ _ _ HX.out
    go_wp2_with fail
    clear c0 c1 c2 c3
    have HBa := hide (HB.out.alloc HB.out.size (.cells #[.int .i64 x.va, .int .i64 x.vb] 3))
    have HC := hide (nums_any (.slice (some ⟨w1.heap.size, 0, none⟩) 2 2) [x.va, x.vb] (w1.alloc (.cells #[.int .i64 x.va, .int .i64 x.vb] 3)) (hide (dat_ints w1 [x.va, x.vb] 3)) (by simp))
    generalize hb1 : ([x.va, x.vb].all numF) = z1 at HC
    have HZ1 := hide hb1
    clear hb1
    refine HC.out.mono ?_
    rintro e w2 ⟨rfl, hb⟩
    have HBn := hide (HBa.out.trans (hb.mono HBa.out.size))
    go_wp2_with fail
    go_ret
    exact ⟨by unfold verF; rw [HZ0.out, HZ1.out]; rfl, HBn.out⟩
def chanF (x : ChanD) : Bool := endsF x.from_ x.to
set_option maxRecDepth 100000 in
set_option maxHeartbeats 4000000 in
theorem f_chan (x : ChanD) (us : List Value) (W : World) (hE : Hid (Env W)) (hd : Hid (DCells W (fun _ => True) us x.cells)) (hl : x.to.length ≤ 140737488355328) :
    Calls Tryz.prog 23 #[.agg us.toArray] W fun e w' => e = .returned (.bool (chanF x)) ∧ Below W.heap.size W w' := by
  have hd := hd.out
  obtain ⟨u0, us, rfl, h0, hd⟩ := dcells_cons hd
  obtain ⟨u1, us, rfl, h1, hd⟩ := dcells_cons hd
  obtain ⟨u2, us, rfl, h2, hd⟩ := dcells_cons hd
  obtain ⟨u3, us, rfl, h3, hd⟩ := dcells_cons hd
  obtain rfl := dcells_nil hd
  obtain rfl := h0.leaf_eq
  obtain rfl := h1.leaf_eq
  obtain rfl := h2.leaf_eq
  have H3 := hide h3
  obtain ⟨A3, q3, rfl, -⟩ := h3.slice
  simp only [List.length_map] at H3 ⊢
  clear hd h0 h1 h2 h3
  simp only [strV]
  have HX := hide (heap_alloc_new W (.cells #[.string ⟨x.from_.m.toArray⟩, .string ⟨x.from_.p.toArray⟩, .string ⟨x.from_.o.toArray⟩, .slice A3 x.to.length q3] 90))
  have HB := hide ((Below.refl W.heap.size W).alloc (Nat.le_refl _) (.cells #[.string ⟨x.from_.m.toArray⟩, .string ⟨x.from_.p.toArray⟩, .string ⟨x.from_.o.toArray⟩, .slice A3 x.to.length q3] 90))
  go_enter Tryz.func23, Tryz.ntmps23
  go_wp2_with fail
  generalize W.alloc (.cells #[.string ⟨x.from_.m.toArray⟩, .string ⟨x.from_.p.toArray⟩, .string ⟨x.from_.o.toArray⟩, .slice A3 x.to.length q3] 90) = w0 at *
  have HC := hide (ends_any x.from_ _ x.to w0 (hide (hE.out.kept HB.out)) (hide (H3.out.later HB.out)) hl)
  generalize hb0 : (endsF x.from_ x.to) = z0 at HC
  have HZ0 := hide hb0
  clear hb0
  refine HC.out.mono ?_
  rintro e w1 ⟨rfl, hb⟩
  have HBn := hide (HB.out.trans (hb.mono HB.out.size))
  go_wp2_with fail
  go_ret
  exact ⟨by unfold chanF; rw [HZ0.out]; rfl, HBn.out⟩
def vlF (x : VlD) : Bool := wordF x.name && (endsF x.from_ x.to && ([x.bag, x.max].all numF))
set_option maxRecDepth 100000 in
set_option maxHeartbeats 4000000 in
theorem f_vl (x : VlD) (us : List Value) (W : World) (hE : Hid (Env W)) (hd : Hid (DCells W (fun _ => True) us x.cells)) (hl : x.to.length ≤ 140737488355328) :
    Calls Tryz.prog 29 #[.agg us.toArray] W fun e w' => e = .returned (.bool (vlF x)) ∧ Below W.heap.size W w' := by
  have hd := hd.out
  obtain ⟨u0, us, rfl, h0, hd⟩ := dcells_cons hd
  obtain ⟨u1, us, rfl, h1, hd⟩ := dcells_cons hd
  obtain ⟨u2, us, rfl, h2, hd⟩ := dcells_cons hd
  obtain ⟨u3, us, rfl, h3, hd⟩ := dcells_cons hd
  obtain ⟨u4, us, rfl, h4, hd⟩ := dcells_cons hd
  obtain ⟨u5, us, rfl, h5, hd⟩ := dcells_cons hd
  obtain ⟨u6, us, rfl, h6, hd⟩ := dcells_cons hd
  obtain rfl := dcells_nil hd
  obtain rfl := h0.leaf_eq
  obtain rfl := h1.leaf_eq
  obtain rfl := h2.leaf_eq
  obtain rfl := h3.leaf_eq
  obtain rfl := h4.leaf_eq
  obtain rfl := h5.leaf_eq
  have H6 := hide h6
  obtain ⟨A6, q6, rfl, -⟩ := h6.slice
  simp only [List.length_map] at H6 ⊢
  clear hd h0 h1 h2 h3 h4 h5 h6
  simp only [strV]
  have HX := hide (heap_alloc_new W (.cells #[.string ⟨x.name.toArray⟩, .string ⟨x.from_.m.toArray⟩, .string ⟨x.from_.p.toArray⟩, .string ⟨x.from_.o.toArray⟩, .int .i64 x.bag, .int .i64 x.max, .slice A6 x.to.length q6] 62))
  have HB := hide ((Below.refl W.heap.size W).alloc (Nat.le_refl _) (.cells #[.string ⟨x.name.toArray⟩, .string ⟨x.from_.m.toArray⟩, .string ⟨x.from_.p.toArray⟩, .string ⟨x.from_.o.toArray⟩, .int .i64 x.bag, .int .i64 x.max, .slice A6 x.to.length q6] 62))
  go_enter Tryz.func29, Tryz.ntmps29
  go_wp2_with fail
  generalize W.alloc (.cells #[.string ⟨x.name.toArray⟩, .string ⟨x.from_.m.toArray⟩, .string ⟨x.from_.p.toArray⟩, .string ⟨x.from_.o.toArray⟩, .int .i64 x.bag, .int .i64 x.max, .slice A6 x.to.length q6] 62) = w0 at *
  have HC := hide (fword_any ⟨x.name.toArray⟩ w0 (hide (hE.out.kept HB.out)))
  simp only at HC
  generalize hb0 : (wordF x.name) = z0 at HC
  have HZ0 := hide hb0
  clear hb0
  cases z0 with
  | false =>
    refine HC.out.mono ?_
    rintro e w1 ⟨rfl, hb⟩
    have HBn := hide (HB.out.trans (hb.mono HB.out.size))
    go_wp2_with fail
    go_ret
    exact ⟨by unfold vlF; rw [HZ0.out]; rfl, HBn.out⟩
  | true =>
    refine HC.out.mono ?_
    rintro e w1 ⟨rfl, hb⟩
    have HBn := hide (HB.out.trans (hb.mono HB.out.size))
    have HXn := hide ((hb.block _ (Array.getElem?_eq_some_iff.1 HX.out).1).trans HX.out)
    clear HX HB HC hb
    have HX := HXn
    have HB := HBn
    clear HXn HBn
    have c0 := cell_of_row _ _ 0 _ _ _ HX.out
    have c1 := cell_of_row _ _ 1 _ _ _ HX.out
    have c2 := cell_of_row _ _ 2 _ _ _ HX.out
    have c3 := cell_of_row _ _ 3 _ _ _ HX.out
    have c4 := cell_of_row _ _ 4 _ _ _ HX.out
    have c5 := cell_of_row _ _ 5 _ _ _ HX.out
    have c6 := cell_of_row _ _ 6 _ _ _ HX.out
    go_wp2_with fail
    clear c0 c1 c2 c3 c4 c5 c6
    have HC := hide (ends_any x.from_ _ x.to w1 (hide (hE.out.kept HB.out)) (hide (H6.out.later HB.out)) hl)
    generalize hb1 : (endsF x.from_ x.to) = z1 at HC
    have HZ1 := hide hb1
    clear hb1
    cases z1 with
    | false =>
      refine HC.out.mono ?_
      rintro e w2 ⟨rfl, hb⟩
      have HBn := hide (HB.out.trans (hb.mono HB.out.size))
      go_wp2_with fail
      go_ret
      exact ⟨by unfold vlF; rw [HZ0.out, HZ1.out]; rfl, HBn.out⟩
    | true =>
      refine HC.out.mono ?_
      rintro e w2 ⟨rfl, hb⟩
      have HBn := hide (HB.out.trans (hb.mono HB.out.size))
      have HXn := hide ((hb.block _ (Array.getElem?_eq_some_iff.1 HX.out).1).trans HX.out)
      clear HX HB HC hb
      have HX := HXn
      have HB := HBn
      clear HXn HBn
      have c0 := cell_of_row _ _ 0 _ _ _ HX.out
      have c1 := cell_of_row _ _ 1 _ _ _ HX.out
      have c2 := cell_of_row _ _ 2 _ _ _ HX.out
      have c3 := cell_of_row _ _ 3 _ _ _ HX.out
      have c4 := cell_of_row _ _ 4 _ _ _ HX.out
      have c5 := cell_of_row _ _ 5 _ _ _ HX.out
      have c6 := cell_of_row _ _ 6 _ _ _ HX.out
      go_wp2_with fail
      clear c0 c1 c2 c3 c4 c5 c6
      have HBa := hide (HB.out.alloc HB.out.size (.cells #[.int .i64 x.bag, .int .i64 x.max] 3))
      have HC := hide (nums_any (.slice (some ⟨w2.heap.size, 0, none⟩) 2 2) [x.bag, x.max] (w2.alloc (.cells #[.int .i64 x.bag, .int .i64 x.max] 3)) (hide (dat_ints w2 [x.bag, x.max] 3)) (by simp))
      generalize hb2 : ([x.bag, x.max].all numF) = z2 at HC
      have HZ2 := hide hb2
      clear hb2
      refine HC.out.mono ?_
      rintro e w3 ⟨rfl, hb⟩
      have HBn := hide (HBa.out.trans (hb.mono HBa.out.size))
      go_wp2_with fail
      go_ret
      exact ⟨by unfold vlF; rw [HZ0.out, HZ1.out, HZ2.out]; rfl, HBn.out⟩
def kindsF (x : PortD) : Bool := (x.kind == 1 && x.depth == 0) || (x.kind == 2 && x.refresh == 0)
def portF (x : PortD) : Bool := kindsF x && (wordF x.name && [x.size, x.depth, x.refresh].all numF)
set_option maxRecDepth 100000 in
set_option maxHeartbeats 4000000 in
theorem f_port (x : PortD) (us : List Value) (W : World) (hE : Hid (Env W)) (hd : Hid (DCells W (fun _ => True) us x.cells)) :
    Calls Tryz.prog 147 #[.agg us.toArray] W fun e w' => e = .returned (.bool (portF x)) ∧ Below W.heap.size W w' := by
  have hd := hd.out
  obtain ⟨u0, us, rfl, h0, hd⟩ := dcells_cons hd
  obtain ⟨u1, us, rfl, h1, hd⟩ := dcells_cons hd
  obtain ⟨u2, us, rfl, h2, hd⟩ := dcells_cons hd
  obtain ⟨u3, us, rfl, h3, hd⟩ := dcells_cons hd
  obtain ⟨u4, us, rfl, h4, hd⟩ := dcells_cons hd
  obtain ⟨u5, us, rfl, h5, hd⟩ := dcells_cons hd
  obtain rfl := dcells_nil hd
  obtain rfl := h0.leaf_eq
  obtain rfl := h1.leaf_eq
  obtain rfl := h2.leaf_eq
  obtain rfl := h3.leaf_eq
  obtain rfl := h4.leaf_eq
  obtain rfl := h5.leaf_eq
  clear hd h0 h1 h2 h3 h4 h5
  simp only [strV]
  have HX := hide (heap_alloc_new W (.cells #[.string ⟨x.name.toArray⟩, .int .u8 (x.kind : Int), .bool x.out, .int .i64 x.size, .int .i64 x.depth, .int .i64 x.refresh] 59))
  have HB := hide ((Below.refl W.heap.size W).alloc (Nat.le_refl _) (.cells #[.string ⟨x.name.toArray⟩, .int .u8 (x.kind : Int), .bool x.out, .int .i64 x.size, .int .i64 x.depth, .int .i64 x.refresh] 59))
  have hw : (((x.kind : Int) == 1) = true ∧ (x.depth == 0) = true ∧ kindsF x = true ∨ ((x.kind : Int) == 1) = false ∧ ((x.kind : Int) == 2) = true ∧ (x.refresh == 0) = true ∧ kindsF x = true) ∨ (((x.kind : Int) == 1) = true ∧ (x.depth == 0) = false ∧ ((x.kind : Int) == 2) = false ∧ kindsF x = false ∨ ((x.kind : Int) == 1) = false ∧ ((x.kind : Int) == 2) = true ∧ (x.refresh == 0) = false ∧ kindsF x = false ∨ ((x.kind : Int) == 1) = false ∧ ((x.kind : Int) == 2) = false ∧ kindsF x = false) := by
    unfold kindsF
    rcases (by omega : x.kind = 1 ∨ x.kind = 2 ∨ x.kind ≠ 1 ∧ x.kind ≠ 2) with h | h | ⟨h, h'⟩
    · rw [h]; cases hd : x.depth == 0 <;> simp
    · rw [h]; cases hd : x.refresh == 0 <;> simp
    · have a1 : ((x.kind : Int) == 1) = false := by simp; omega
      have a2 : ((x.kind : Int) == 2) = false := by simp; omega
      have a3 : (x.kind == 1) = false := by simpa using h
      have a4 : (x.kind == 2) = false := by simpa using h'
      simp [a1, a2, a3, a4]
  rcases hw with (⟨k1, k2, k3⟩ | ⟨k1, k2, k4, k3⟩) | ⟨k1, k2, k4, k3⟩ | ⟨k1, k2, k4, k3⟩ | ⟨k1, k2, k3⟩
  · have HKD := hide k3
    clear k3
    go_enter Tryz.func147, Tryz.ntmps147
    go_wp2_with fail
    generalize W.alloc (.cells #[.string ⟨x.name.toArray⟩, .int .u8 (x.kind : Int), .bool x.out, .int .i64 x.size, .int .i64 x.depth, .int .i64 x.refresh] 59) = w0 at *
    have HC := hide (fword_any ⟨x.name.toArray⟩ w0 (hide (hE.out.kept HB.out)))
    simp only at HC
    generalize hb0 : (wordF x.name) = z0 at HC
    have HZ0 := hide hb0
    clear hb0
    cases z0 with
    | false =>
      refine HC.out.mono ?_
      rintro e w1 ⟨rfl, hb⟩
      have HBn := hide (HB.out.trans (hb.mono HB.out.size))
      go_wp2_with fail
      go_ret
      exact ⟨by unfold portF; rw [HKD.out, HZ0.out]; rfl, HBn.out⟩
    | true =>
      refine HC.out.mono ?_
      rintro e w1 ⟨rfl, hb⟩
      have HBn := hide (HB.out.trans (hb.mono HB.out.size))
      have HXn := hide ((hb.block _ (Array.getElem?_eq_some_iff.1 HX.out).1).trans HX.out)
      clear HX HB HC hb
      have HX := HXn
      have HB := HBn
      clear HXn HBn
      have c0 := cell_of_row _ _ 0 _ _ _ HX.out
      have c1 := cell_of_row _ _ 1 _ _ _ HX.out
      have c2 := cell_of_row _ _ 2 _ _ _ HX.out
      have c3 := cell_of_row _ _ 3 _ _ _ HX.out
      have c4 := cell_of_row _ _ 4 _ _ _ HX.out
      have c5 := cell_of_row _ _ 5 _ _ _ HX.out
      go_wp2_with fail
      clear c0 c1 c2 c3 c4 c5
      have HBa := hide (HB.out.alloc HB.out.size (.cells #[.int .i64 x.size, .int .i64 x.depth, .int .i64 x.refresh] 3))
      have HC := hide (nums_any (.slice (some ⟨w1.heap.size, 0, none⟩) 3 3) [x.size, x.depth, x.refresh] (w1.alloc (.cells #[.int .i64 x.size, .int .i64 x.depth, .int .i64 x.refresh] 3)) (hide (dat_ints w1 [x.size, x.depth, x.refresh] 3)) (by simp))
      generalize hb1 : ([x.size, x.depth, x.refresh].all numF) = z1 at HC
      have HZ1 := hide hb1
      clear hb1
      refine HC.out.mono ?_
      rintro e w2 ⟨rfl, hb⟩
      have HBn := hide (HBa.out.trans (hb.mono HBa.out.size))
      go_wp2_with fail
      go_ret
      exact ⟨by unfold portF; rw [HKD.out, HZ0.out, HZ1.out]; rfl, HBn.out⟩
  · have HKD := hide k3
    clear k3
    go_enter Tryz.func147, Tryz.ntmps147
    go_wp2_with fail
    generalize W.alloc (.cells #[.string ⟨x.name.toArray⟩, .int .u8 (x.kind : Int), .bool x.out, .int .i64 x.size, .int .i64 x.depth, .int .i64 x.refresh] 59) = w0 at *
    have HC := hide (fword_any ⟨x.name.toArray⟩ w0 (hide (hE.out.kept HB.out)))
    simp only at HC
    generalize hb0 : (wordF x.name) = z0 at HC
    have HZ0 := hide hb0
    clear hb0
    cases z0 with
    | false =>
      refine HC.out.mono ?_
      rintro e w1 ⟨rfl, hb⟩
      have HBn := hide (HB.out.trans (hb.mono HB.out.size))
      go_wp2_with fail
      go_ret
      exact ⟨by unfold portF; rw [HKD.out, HZ0.out]; rfl, HBn.out⟩
    | true =>
      refine HC.out.mono ?_
      rintro e w1 ⟨rfl, hb⟩
      have HBn := hide (HB.out.trans (hb.mono HB.out.size))
      have HXn := hide ((hb.block _ (Array.getElem?_eq_some_iff.1 HX.out).1).trans HX.out)
      clear HX HB HC hb
      have HX := HXn
      have HB := HBn
      clear HXn HBn
      have c0 := cell_of_row _ _ 0 _ _ _ HX.out
      have c1 := cell_of_row _ _ 1 _ _ _ HX.out
      have c2 := cell_of_row _ _ 2 _ _ _ HX.out
      have c3 := cell_of_row _ _ 3 _ _ _ HX.out
      have c4 := cell_of_row _ _ 4 _ _ _ HX.out
      have c5 := cell_of_row _ _ 5 _ _ _ HX.out
      go_wp2_with fail
      clear c0 c1 c2 c3 c4 c5
      have HBa := hide (HB.out.alloc HB.out.size (.cells #[.int .i64 x.size, .int .i64 x.depth, .int .i64 x.refresh] 3))
      have HC := hide (nums_any (.slice (some ⟨w1.heap.size, 0, none⟩) 3 3) [x.size, x.depth, x.refresh] (w1.alloc (.cells #[.int .i64 x.size, .int .i64 x.depth, .int .i64 x.refresh] 3)) (hide (dat_ints w1 [x.size, x.depth, x.refresh] 3)) (by simp))
      generalize hb1 : ([x.size, x.depth, x.refresh].all numF) = z1 at HC
      have HZ1 := hide hb1
      clear hb1
      refine HC.out.mono ?_
      rintro e w2 ⟨rfl, hb⟩
      have HBn := hide (HBa.out.trans (hb.mono HBa.out.size))
      go_wp2_with fail
      go_ret
      exact ⟨by unfold portF; rw [HKD.out, HZ0.out, HZ1.out]; rfl, HBn.out⟩
  all_goals
    go_enter Tryz.func147, Tryz.ntmps147
    go_wp2_with fail
    go_ret
    exact ⟨by unfold portF; rw [k3]; rfl, HB.out⟩
def swF (x : SwD) : Bool := wordF x.name && ((x.net / 2 == 0) && ([x.delay, x.store].all numF))
set_option maxRecDepth 100000 in
set_option maxHeartbeats 4000000 in
theorem f_sw (x : SwD) (us : List Value) (W : World) (hE : Hid (Env W)) (hd : Hid (DCells W (fun _ => True) us x.cells)) :
    Calls Tryz.prog 25 #[.agg us.toArray] W fun e w' => e = .returned (.bool (swF x)) ∧ Below W.heap.size W w' := by
  have hd := hd.out
  obtain ⟨u0, us, rfl, h0, hd⟩ := dcells_cons hd
  obtain ⟨u1, us, rfl, h1, hd⟩ := dcells_cons hd
  obtain ⟨u2, us, rfl, h2, hd⟩ := dcells_cons hd
  obtain ⟨u3, us, rfl, h3, hd⟩ := dcells_cons hd
  obtain rfl := dcells_nil hd
  obtain rfl := h0.leaf_eq
  obtain rfl := h1.leaf_eq
  obtain rfl := h2.leaf_eq
  obtain rfl := h3.leaf_eq
  clear hd h0 h1 h2 h3
  simp only [strV]
  have HX := hide (heap_alloc_new W (.cells #[.string ⟨x.name.toArray⟩, .int .i64 x.net, .int .i64 x.delay, .int .i64 x.store] 94))
  have HB := hide ((Below.refl W.heap.size W).alloc (Nat.le_refl _) (.cells #[.string ⟨x.name.toArray⟩, .int .i64 x.net, .int .i64 x.delay, .int .i64 x.store] 94))
  go_enter Tryz.func25, Tryz.ntmps25
  go_wp2_with fail
  generalize W.alloc (.cells #[.string ⟨x.name.toArray⟩, .int .i64 x.net, .int .i64 x.delay, .int .i64 x.store] 94) = w0 at *
  have HC := hide (fword_any ⟨x.name.toArray⟩ w0 (hide (hE.out.kept HB.out)))
  simp only at HC
  generalize hb0 : (wordF x.name) = z0 at HC
  have HZ0 := hide hb0
  clear hb0
  cases z0 with
  | false =>
    refine HC.out.mono ?_
    rintro e w1 ⟨rfl, hb⟩
    have HBn := hide (HB.out.trans (hb.mono HB.out.size))
    go_wp2_with fail
    go_ret
    exact ⟨by unfold swF; rw [HZ0.out]; rfl, HBn.out⟩
  | true =>
    refine HC.out.mono ?_
    rintro e w1 ⟨rfl, hb⟩
    have HBn := hide (HB.out.trans (hb.mono HB.out.size))
    have HXn := hide ((hb.block _ (Array.getElem?_eq_some_iff.1 HX.out).1).trans HX.out)
    clear HX HB HC hb
    have HX := HXn
    have HB := HBn
    clear HXn HBn
    have c0 := cell_of_row _ _ 0 _ _ _ HX.out
    have c1 := cell_of_row _ _ 1 _ _ _ HX.out
    have c2 := cell_of_row _ _ 2 _ _ _ HX.out
    have c3 := cell_of_row _ _ 3 _ _ _ HX.out
    cases hn : (x.net / 2 == 0) with
    | false =>
      go_wp2_with fail
      go_ret
      exact ⟨by unfold swF; rw [HZ0.out, hn]; rfl, HB.out⟩
    | true =>
      have HZ1 := hide hn
      go_wp2_with fail
      clear c0 c1 c2 c3 hn
      have HBa := hide (HB.out.alloc HB.out.size (.cells #[.int .i64 x.delay, .int .i64 x.store] 3))
      have HC := hide (nums_any (.slice (some ⟨w1.heap.size, 0, none⟩) 2 2) [x.delay, x.store] (w1.alloc (.cells #[.int .i64 x.delay, .int .i64 x.store] 3)) (hide (dat_ints w1 [x.delay, x.store] 3)) (by simp))
      generalize hb2 : ([x.delay, x.store].all numF) = z2 at HC
      have HZ2 := hide hb2
      clear hb2
      refine HC.out.mono ?_
      rintro e w3 ⟨rfl, hb⟩
      have HBn := hide (HBa.out.trans (hb.mono HBa.out.size))
      go_wp2_with fail
      go_ret
      exact ⟨by unfold swF; rw [HZ0.out, HZ1.out, HZ2.out]; rfl, HBn.out⟩
def linkF (x : LinkD) : Bool := [x.a, x.b].all wordF && ((x.net / 2 == 0) && ([x.slow].all numF))
set_option maxRecDepth 100000 in
set_option maxHeartbeats 4000000 in
theorem f_link (x : LinkD) (us : List Value) (W : World) (hE : Hid (Env W)) (hd : Hid (DCells W (fun _ => True) us x.cells)) :
    Calls Tryz.prog 27 #[.agg us.toArray] W fun e w' => e = .returned (.bool (linkF x)) ∧ Below W.heap.size W w' := by
  have hd := hd.out
  obtain ⟨u0, us, rfl, h0, hd⟩ := dcells_cons hd
  obtain ⟨u1, us, rfl, h1, hd⟩ := dcells_cons hd
  obtain ⟨u2, us, rfl, h2, hd⟩ := dcells_cons hd
  obtain ⟨u3, us, rfl, h3, hd⟩ := dcells_cons hd
  obtain rfl := dcells_nil hd
  obtain rfl := h0.leaf_eq
  obtain rfl := h1.leaf_eq
  obtain rfl := h2.leaf_eq
  obtain rfl := h3.leaf_eq
  clear hd h0 h1 h2 h3
  simp only [strV]
  have HX := hide (heap_alloc_new W (.cells #[.string ⟨x.a.toArray⟩, .string ⟨x.b.toArray⟩, .int .i64 x.net, .int .i64 x.slow] 98))
  have HB := hide ((Below.refl W.heap.size W).alloc (Nat.le_refl _) (.cells #[.string ⟨x.a.toArray⟩, .string ⟨x.b.toArray⟩, .int .i64 x.net, .int .i64 x.slow] 98))
  go_enter Tryz.func27, Tryz.ntmps27
  go_wp2_with fail
  have hzw : (W.alloc (.cells #[.string ⟨x.a.toArray⟩, .string ⟨x.b.toArray⟩, .int .i64 x.net, .int .i64 x.slow] 98)).heap.size = W.heap.size + 1 := by simp
  generalize W.alloc (.cells #[.string ⟨x.a.toArray⟩, .string ⟨x.b.toArray⟩, .int .i64 x.net, .int .i64 x.slow] 98) = w0 at *
  have HBa := hide (HB.out.alloc HB.out.size (.cells #[.string ⟨x.a.toArray⟩, .string ⟨x.b.toArray⟩] 9))
  have HC := hide (words_any (.slice (some ⟨w0.heap.size, 0, none⟩) 2 2) [x.a, x.b] (w0.alloc (.cells #[.string ⟨x.a.toArray⟩, .string ⟨x.b.toArray⟩] 9)) (hide (dat_strs w0 [x.a, x.b] 9)) (by simp) (hide (hE.out.kept HBa.out)))
  rw [hzw] at HC
  clear hzw
  generalize hb0 : ([x.a, x.b].all wordF) = z0 at HC
  have HZ0 := hide hb0
  clear hb0
  cases z0 with
  | false =>
    refine HC.out.mono ?_
    rintro e w1 ⟨rfl, hb⟩
    have HBn := hide (HBa.out.trans (hb.mono HBa.out.size))
    go_wp2_with fail
    go_ret
    exact ⟨by unfold linkF; rw [HZ0.out]; rfl, HBn.out⟩
  | true =>
    refine HC.out.mono ?_
    rintro e w1 ⟨rfl, hb⟩
    have HBn := hide (HBa.out.trans (hb.mono HBa.out.size))
    have HXn := hide ((hb.block _ (by have := (Array.getElem?_eq_some_iff.1 HX.out).1; simp; omega)).trans ((Below.heap_alloc _ _ _ (Array.getElem?_eq_some_iff.1 HX.out).1).trans HX.out))
    clear HX HB HC hb HBa
    have HX := HXn
    have HB := HBn
    clear HXn HBn
    have c0 := cell_of_row _ _ 0 _ _ _ HX.out
    have c1 := cell_of_row _ _ 1 _ _ _ HX.out
    have c2 := cell_of_row _ _ 2 _ _ _ HX.out
    have c3 := cell_of_row _ _ 3 _ _ _ HX.out
    cases hn : (x.net / 2 == 0) with
    | false =>
      go_wp2_with fail
      go_ret
      exact ⟨by unfold linkF; rw [HZ0.out, hn]; rfl, HB.out⟩
    | true =>
      have HZ1 := hide hn
      go_wp2_with fail
      clear c0 c1 c2 c3 hn
      have HBa := hide (HB.out.alloc HB.out.size (.cells #[.int .i64 x.slow] 3))
      have HC := hide (nums_any (.slice (some ⟨w1.heap.size, 0, none⟩) 1 1) [x.slow] (w1.alloc (.cells #[.int .i64 x.slow] 3)) (hide (dat_ints w1 [x.slow] 3)) (by simp))
      generalize hb2 : ([x.slow].all numF) = z2 at HC
      have HZ2 := hide hb2
      clear hb2
      refine HC.out.mono ?_
      rintro e w3 ⟨rfl, hb⟩
      have HBn := hide (HBa.out.trans (hb.mono HBa.out.size))
      go_wp2_with fail
      go_ret
      exact ⟨by unfold linkF; rw [HZ0.out, HZ1.out, HZ2.out]; rfl, HBn.out⟩
end Go.Proofs.YtndpnpohdoggjaaGreatDoor
