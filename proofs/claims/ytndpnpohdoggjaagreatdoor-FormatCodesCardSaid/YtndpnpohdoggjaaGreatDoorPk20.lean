/-
  Merged texts: format: the printing of partitions and modules (printed by tools/mkp3.py).
-/
import Derived.Test.YtndpnpohdoggjaaGreatDoorPk18
import Derived.Test.YtndpnpohdoggjaaGreatDoorPk17
import Derived.Deep.DeepCutAuto
import Derived.Deep.Light
namespace Go.Proofs.YtndpnpohdoggjaaGreatDoor
open Go.RowKit
attribute [local go_sem] Later.cell
set_option maxRecDepth 100000 in
theorem bs1 (t0 : TypeId) (x0 : Value) (w : World) : (Instr.buildSlice 194 1 #[(0, .iface t0 x0)]).run Tryz.prog w = .ok (.slice (some ⟨w.heap.size, 0, none⟩) 1 1) (w.alloc (.cells #[.iface t0 x0] 20)) := by kernel_rfl
set_option maxRecDepth 100000 in
theorem bs2 (t0 t1 : TypeId) (x0 x1 : Value) (w : World) : (Instr.buildSlice 194 2 #[(0, .iface t0 x0), (1, .iface t1 x1)]).run Tryz.prog w = .ok (.slice (some ⟨w.heap.size, 0, none⟩) 2 2) (w.alloc (.cells #[.iface t0 x0, .iface t1 x1] 20)) := by kernel_rfl
set_option maxRecDepth 100000 in
theorem bs6 (t0 t1 t2 t3 t4 t5 : TypeId) (x0 x1 x2 x3 x4 x5 : Value) (w : World) : (Instr.buildSlice 194 6 #[(0, .iface t0 x0), (1, .iface t1 x1), (2, .iface t2 x2), (3, .iface t3 x3), (4, .iface t4 x4), (5, .iface t5 x5)]).run Tryz.prog w = .ok (.slice (some ⟨w.heap.size, 0, none⟩) 6 6) (w.alloc (.cells #[.iface t0 x0, .iface t1 x1, .iface t2 x2, .iface t3 x3, .iface t4 x4, .iface t5 x5] 20)) := by kernel_rfl
set_option maxRecDepth 100000 in
theorem bs8 (t0 t1 t2 t3 t4 t5 t6 t7 : TypeId) (x0 x1 x2 x3 x4 x5 x6 x7 : Value) (w : World) : (Instr.buildSlice 194 8 #[(0, .iface t0 x0), (1, .iface t1 x1), (2, .iface t2 x2), (3, .iface t3 x3), (4, .iface t4 x4), (5, .iface t5 x5), (6, .iface t6 x6), (7, .iface t7 x7)]).run Tryz.prog w = .ok (.slice (some ⟨w.heap.size, 0, none⟩) 8 8) (w.alloc (.cells #[.iface t0 x0, .iface t1 x1, .iface t2 x2, .iface t3 x3, .iface t4 x4, .iface t5 x5, .iface t6 x6, .iface t7 x7] 20)) := by kernel_rfl
theorem exec_bs {ρ : Operand → Value} {o : Oper} {t : TypeId} {n : Nat} {parts : Array (Nat × Operand)} {ps : Array (Nat × Value)} {v : Value} {w w' : World} (ho : o.op = .buildSlice t n parts) (hp : (parts.map fun x => (x.1, ρ x.2)) = ps) (h : (Instr.buildSlice t n ps).run Tryz.prog w = .ok v w') : (execOp ρ o).run Tryz.prog w = .ok (.value v) w' := by
  unfold execOp
  rw [ho]
  subst hp
  simp [h]
theorem if_goal {c : Prop} [Decidable c] {p q : Prop} (h : c) (hp : p) : (if c then p else q) := by
  rw [if_pos h]
  exact hp
theorem wp_value {o : Oper} {a : Act} {w w' : World} {v : Value} {K : Act → World → Prop} {Q : Exit → Act → World → Prop} (h : (execOp a.eval o).run Tryz.prog w = .ok (.value v) w') (hK : K (a.put o.dst v) w') : Oper.wp Tryz.prog o a w K Q := by
  unfold Oper.wp
  rw [h]
  rw [Oper.upon_value]
  exact hK
set_option maxRecDepth 100000 in
set_option maxHeartbeats 8000000 in
theorem p_part (B b : Nat) (k8 : C8) (L : List UInt8) (x : PartD) (us : List Value) (W : World) (h : Hid (PrAt B b k8 L W)) (hd : Hid (DCells W (fun g => g < B) us x.cells)) (hF : partF x = true) (hlen : L.length + (partT x).length ≤ 1000000) (hBw : B ≤ W.heap.size) (hGB : 6 ≤ B) (hE : Hid (Env W)) (hGP : 3 ≤ B) (hP : Hid (EnvP W)) (hfit : PartFit x) :
    Calls Tryz.prog 117 #[.pointer (some ⟨b, 0, none⟩), .agg us.toArray] W fun e w' => e = .returned (.tuple #[]) ∧ PrAt B b k8 (L ++ partT x) w' ∧ Below B W w' ∧ PrK b W w' := by
  simp only [partF, Bool.and_eq_true] at hF
  obtain ⟨-, hn, hsm, hbf, hpt, hpr⟩ := hF
  simp only [List.all_cons, List.all_nil, Bool.and_true, Bool.and_eq_true] at hn
  obtain ⟨n0, n1, n2, n3, n4⟩ := hn
  have HSM := hide hsm
  have HBF := hide hbf
  have HPT := hide hpt
  have HPR := hide hpr
  clear hsm hbf hpt hpr
  obtain ⟨fs, fb, fp, fq, fz⟩ := hfit
  have HZ := hide fz
  clear fz
  have hsum : (partT x).length = (partH x).length + (semasT x).length + (eventsT x).length + (boardsT x).length + (bufsT x).length + (catT portT x.ports).length + (catT procT x.procs).length + 3 := by
    have : (lnT 1 [125] []).length = 3 := by rw [lnT_len]; rfl
    simp only [partT, List.length_append]
    omega
  rw [hsum] at hlen
  have hfin : L ++ partT x = L ++ partH x ++ semasT x ++ eventsT x ++ boardsT x ++ bufsT x ++ catT portT x.ports ++ catT procT x.procs ++ lnT 1 [125] [] := by simp only [partT, List.append_assoc]
  rw [hfin]
  clear hsum hfin
  have hd := hd.out
  obtain ⟨u0, us, rfl, h0, hd0⟩ := dcells_cons hd
  clear hd
  obtain ⟨u1, us, rfl, h1, hd1⟩ := dcells_cons hd0
  clear hd0
  obtain ⟨u2, us, rfl, h2, hd2⟩ := dcells_cons hd1
  clear hd1
  obtain ⟨u3, us, rfl, h3, hd3⟩ := dcells_cons hd2
  clear hd2
  obtain ⟨u4, us, rfl, h4, hd4⟩ := dcells_cons hd3
  clear hd3
  obtain ⟨u5, us, rfl, h5, hd5⟩ := dcells_cons hd4
  clear hd4
  obtain ⟨u6, us, rfl, h6, hd6⟩ := dcells_cons hd5
  clear hd5
  obtain ⟨u7, us, rfl, h7, hd7⟩ := dcells_cons hd6
  clear hd6
  obtain ⟨u8, us, rfl, h8, hd8⟩ := dcells_cons hd7
  clear hd7
  obtain ⟨u9, us, rfl, h9, hd9⟩ := dcells_cons hd8
  clear hd8
  obtain rfl := dcells_nil hd9
  clear hd9
  obtain rfl := h0.leaf_eq
  obtain rfl := h1.leaf_eq
  obtain rfl := h2.leaf_eq
  obtain rfl := h3.leaf_eq
  have HG4 := hide h4
  obtain ⟨A4, q4, rfl, hr4⟩ := h4.sliceG
  have HR4 := hide hr4
  clear hr4
  obtain rfl := h5.leaf_eq
  obtain rfl := h6.leaf_eq
  have HG7 := hide h7
  obtain ⟨A7, q7, rfl, hr7⟩ := h7.sliceG
  have HR7 := hide hr7
  clear hr7
  have HG8 := hide h8
  obtain ⟨A8, q8, rfl, hr8⟩ := h8.sliceG
  have HR8 := hide hr8
  clear hr8
  have HG9 := hide h9
  obtain ⟨A9, q9, rfl, hr9⟩ := h9.sliceG
  have HR9 := hide hr9
  clear hr9
  rw [show (intRows x.semas).length = x.semas.length from by simp [intRows]] at HG4 ⊢
  rw [show (intRows x.bufs).length = x.bufs.length from by simp [intRows]] at HG7 ⊢
  simp only [List.length_map] at HG8 HG9 ⊢
  clear h0 h1 h2 h3 h4 h5 h6 h7 h8 h9
  simp only [strV]
  have HXb := hide (heap_alloc_new W (.cells #[.string ⟨x.name.toArray⟩, .int .i64 x.period, .int .i64 x.length, .int .i64 x.mem, .slice A4 x.semas.length q4, .int .i64 x.events, .int .i64 x.boards, .slice A7 x.bufs.length q7, .slice A8 x.ports.length q8, .slice A9 x.procs.length q9] 36))
  have HBA := hide ((Below.refl W.heap.size W).alloc (Nat.le_refl _) (.cells #[.string ⟨x.name.toArray⟩, .int .i64 x.period, .int .i64 x.length, .int .i64 x.mem, .slice A4 x.semas.length q4, .int .i64 x.events, .int .i64 x.boards, .slice A7 x.bufs.length q7, .slice A8 x.ports.length q8, .slice A9 x.procs.length q9] 36))
  have hxl0 : W.heap.size < (W.alloc (.cells #[.string ⟨x.name.toArray⟩, .int .i64 x.period, .int .i64 x.length, .int .i64 x.mem, .slice A4 x.semas.length q4, .int .i64 x.events, .int .i64 x.boards, .slice A7 x.bufs.length q7, .slice A8 x.ports.length q8, .slice A9 x.procs.length q9] 36)).heap.size := by simp
  go_enter Tryz.func117, Tryz.ntmps117
  go_wp2_with fail
  generalize W.alloc (.cells #[.string ⟨x.name.toArray⟩, .int .i64 x.period, .int .i64 x.length, .int .i64 x.mem, .slice A4 x.semas.length q4, .int .i64 x.events, .int .i64 x.boards, .slice A7 x.bufs.length q7, .slice A8 x.ports.length q8, .slice A9 x.procs.length q9] 36) = w0 at *
  have HPa := hide (h.out.later HBA.out)
  have HBa := hide (HBA.out.mono hBw)
  have HKa := hide (PrK.refl b w0)
  have HKW := hide (PrK.later (b := b) HBA.out)
  have hxb : W.heap.size ≠ b := by have := h.out.lt; omega
  have HOx : Hid (Oth w0 W.heap.size) := hide ⟨_, _, _, HXb.out, by decide⟩
  obtain ⟨xb, hxbe⟩ : ∃ xb, W.heap.size = xb := ⟨_, rfl⟩
  have HXE := hide hxbe
  clear h HBA
  clear hxbe xb HXE
  have HXw := hide ((HKa.out.block W.heap.size hxb HOx.out).trans HXb.out)
  have hxl : W.heap.size < w0.heap.size := (Array.getElem?_eq_some_iff.1 HXw.out).1
  have x0 := cell_of_row _ _ 0 _ _ _ HXw.out
  have x1 := cell_of_row _ _ 1 _ _ _ HXw.out
  have x2 := cell_of_row _ _ 2 _ _ _ HXw.out
  have x3 := cell_of_row _ _ 3 _ _ _ HXw.out
  have hl1 : (partH x).length = 1 + (sayT ([.s ([112, 97, 114, 116]), .s (x.name), .s ([112, 101, 114, 105, 111, 100]), .n (x.period), .s ([108, 101, 110, 103, 116, 104]), .n (x.length), .s ([109, 101, 109]), .n (x.mem)] : List Arg)).length + 3 := by rw [partH, lnT_len]; rfl
  have hBa : B ≤ w0.heap.size := Nat.le_trans hBw HBa.out.size
  refine wp_region_tail (S := fun w' => Below w0.heap.size w0 w') 20 (by kernel_rfl) (by kernel_rfl) (Below.refl _ _).drew (fun hHeld => ?_)
  generalize w0.drew = U at *
  refine tk 0 11 rfl (by kernel_rfl) (fun _ _ _ h => h) rfl (fun _ _ => by go_simp; with_reducible rfl) hHeld ?_
  (try simp only [Act.put, putA, putB, putC])
  refine tk 1 12 rfl (by kernel_rfl) (fun _ _ _ h => h) rfl (fun _ _ => by go_simp; with_reducible rfl) hHeld ?_
  (try simp only [Act.put, putA, putB, putC])
  refine tk 2 13 rfl (by kernel_rfl) (fun _ _ _ h => h) rfl (fun _ _ => by go_simp; with_reducible rfl) hHeld ?_
  (try simp only [Act.put, putA, putB, putC])
  refine tk 3 14 rfl (by kernel_rfl) (fun _ _ _ h => h) rfl (fun _ _ => by go_simp; with_reducible rfl) hHeld ?_
  (try simp only [Act.put, putA, putB, putC])
  refine tk 4 15 rfl (by kernel_rfl) (fun _ _ _ h => h) rfl (fun _ _ => by go_simp; with_reducible rfl) hHeld ?_
  (try simp only [Act.put, putA, putB, putC])
  refine wpAnyT_take (i := 5) (oi := ⟨some 16, _, _, _, _, _⟩) (v := ?_) rfl (by kernel_rfl) (fun _ _ _ h => h) (Or.inl ⟨by rfl, ?_⟩) hHeld ?_
  rotate_left
  · intro v hS
    have e0 := (hS.cell (p := ⟨W.heap.size, 0, none⟩) hxl).trans x0
    go_simp
    with_reducible rfl
  (try simp only [Act.put, putA, putB, putC])
  refine tk 6 17 rfl (by kernel_rfl) (fun _ _ _ h => h) rfl (fun _ _ => by go_simp; with_reducible rfl) hHeld ?_
  (try simp only [Act.put, putA, putB, putC])
  refine tk 7 18 rfl (by kernel_rfl) (fun _ _ _ h => h) rfl (fun _ _ => by go_simp; with_reducible rfl) hHeld ?_
  (try simp only [Act.put, putA, putB, putC])
  refine tk 8 19 rfl (by kernel_rfl) (fun _ _ _ h => h) rfl (fun _ _ => by go_simp; with_reducible rfl) hHeld ?_
  (try simp only [Act.put, putA, putB, putC])
  refine wpAnyT_take (i := 9) (oi := ⟨some 20, _, _, _, _, _⟩) (v := ?_) rfl (by kernel_rfl) (fun _ _ _ h => h) (Or.inl ⟨by rfl, ?_⟩) hHeld ?_
  rotate_left
  · intro v hS
    have e0 := (hS.cell (p := ⟨W.heap.size, 1, none⟩) hxl).trans x1
    go_simp
    with_reducible rfl
  (try simp only [Act.put, putA, putB, putC])
  refine tk 10 21 rfl (by kernel_rfl) (fun _ _ _ h => h) rfl (fun _ _ => by go_simp; with_reducible rfl) hHeld ?_
  (try simp only [Act.put, putA, putB, putC])
  refine tk 11 22 rfl (by kernel_rfl) (fun _ _ _ h => h) rfl (fun _ _ => by go_simp; with_reducible rfl) hHeld ?_
  (try simp only [Act.put, putA, putB, putC])
  refine tk 12 23 rfl (by kernel_rfl) (fun _ _ _ h => h) rfl (fun _ _ => by go_simp; with_reducible rfl) hHeld ?_
  (try simp only [Act.put, putA, putB, putC])
  refine wpAnyT_take (i := 13) (oi := ⟨some 24, _, _, _, _, _⟩) (v := ?_) rfl (by kernel_rfl) (fun _ _ _ h => h) (Or.inl ⟨by rfl, ?_⟩) hHeld ?_
  rotate_left
  · intro v hS
    have e0 := (hS.cell (p := ⟨W.heap.size, 2, none⟩) hxl).trans x2
    go_simp
    with_reducible rfl
  (try simp only [Act.put, putA, putB, putC])
  refine tk 14 25 rfl (by kernel_rfl) (fun _ _ _ h => h) rfl (fun _ _ => by go_simp; with_reducible rfl) hHeld ?_
  (try simp only [Act.put, putA, putB, putC])
  refine tk 15 26 rfl (by kernel_rfl) (fun _ _ _ h => h) rfl (fun _ _ => by go_simp; with_reducible rfl) hHeld ?_
  (try simp only [Act.put, putA, putB, putC])
  refine tk 16 27 rfl (by kernel_rfl) (fun _ _ _ h => h) rfl (fun _ _ => by go_simp; with_reducible rfl) hHeld ?_
  (try simp only [Act.put, putA, putB, putC])
  refine wpAnyT_take (i := 17) (oi := ⟨some 28, _, _, _, _, _⟩) (v := ?_) rfl (by kernel_rfl) (fun _ _ _ h => h) (Or.inl ⟨by rfl, ?_⟩) hHeld ?_
  rotate_left
  · intro v hS
    have e0 := (hS.cell (p := ⟨W.heap.size, 3, none⟩) hxl).trans x3
    go_simp
    with_reducible rfl
  (try simp only [Act.put, putA, putB, putC])
  refine tk 18 29 rfl (by kernel_rfl) (fun _ _ _ h => h) rfl (fun _ _ => by go_simp; with_reducible rfl) hHeld ?_
  (try simp only [Act.put, putA, putB, putC])
  refine wpAnyT_ready (rs := [19]) (by kernel_rfl) (by simp) (by rfl) (AllT.cons rfl (fun K hK => ?_) AllT.nil)
  refine if_goal (by rfl) ?_
  have HD := hide (any_new U ([.s ([112, 97, 114, 116]), .s (x.name), .s ([112, 101, 114, 105, 111, 100]), .n (x.period), .s ([108, 101, 110, 103, 116, 104]), .n (x.length), .s ([109, 101, 109]), .n (x.mem)] : List Arg) (b := b) (HPa.out.later hHeld).lt)
  refine wp_value (exec_bs (ps := #[(0, .iface 9 (.string ⟨([112, 97, 114, 116]).toArray⟩)), (1, .iface 9 (.string ⟨(x.name).toArray⟩)), (2, .iface 9 (.string ⟨([112, 101, 114, 105, 111, 100]).toArray⟩)), (3, .iface 3 (.int .i64 x.period)), (4, .iface 9 (.string ⟨([108, 101, 110, 103, 116, 104]).toArray⟩)), (5, .iface 3 (.int .i64 x.length)), (6, .iface 9 (.string ⟨([109, 101, 109]).toArray⟩)), (7, .iface 3 (.int .i64 x.mem))]) rfl (by kernel_rfl) (bs8 _ _ _ _ _ _ _ _ _ _ _ _ _ _ _ _ U)) ?_
  refine hK.out _ _ (hHeld.alloc hHeld.size _) (fun hHeld1 => ?_)
  clear hK K hHeld
  (try simp only [Act.put, putA])
  refine wpAnyT_done (by kernel_rfl) ?_
  simp only [List.drop_succ_cons, List.drop_zero]
  have HBl := hide (HBa.out.trans (hHeld1.mono hBa))
  have HKl := hide (HKa.out.trans (.later hHeld1))
  have HC := hide (ln_any B b k8 _ 1 [32, 123] _ ([.s ([112, 97, 114, 116]), .s (x.name), .s ([112, 101, 114, 105, 111, 100]), .n (x.period), .s ([108, 101, 110, 103, 116, 104]), .n (x.length), .s ([109, 101, 109]), .n (x.mem)] : List Arg) _ (hide (HPa.out.later hHeld1)) HD (hide (ok_s (ok_s (ok_s (ok_n n0 (ok_s (ok_n n1 (ok_s (ok_n n2 ok_nil))))))))) (by simp) (by omega) (by simp) (by omega) (Nat.le_trans hBa hHeld1.size) hGB (hide (hE.out.keptB HBl.out hGB)))
  clear hHeld1 HD
  go_wp2_with fail
  refine HC.out.mono ?_
  rintro e wb ⟨rfl, h1, h2, h3⟩
  have HPb := hide h1
  have HBb := hide (HBl.out.trans h2)
  have HKb := hide (HKl.out.trans h3)
  clear h1 h2 h3 HC HBl HKl
  clear hl1 HXw x0 x1 x2 x3 hxl
  replace HPb : Hid (PrAt B b k8 (L ++ partH x) wb) := HPb
  have HXw := hide ((HKb.out.block W.heap.size hxb HOx.out).trans HXb.out)
  have hxl : W.heap.size < wb.heap.size := (Array.getElem?_eq_some_iff.1 HXw.out).1
  have x4 := cell_of_row _ _ 4 _ _ _ HXw.out
  go_upto_if 35 with fail
  go_cut [] (fun wx => Hid (PrAt B b k8 (L ++ partH x ++ semasT x) wx) ∧ Hid (Below B W wx) ∧ Hid (PrK b w0 wx))
  case first =>
    as_aux_lemma =>
      by_cases hc : x.semas = []
      · have he : semasT x = [] := if_pos hc
        have hn0 : x.semas.length = 0 := by rw [hc]; rfl
        rw [hn0] at x4
        go_wp2_with fail
        go_meet
        exact ⟨hide (by rw [he, List.append_nil]; exact HPb.out), HBb, HKb⟩
      · have hnc := hide hc
        have hn1 : (0 : Int) < (x.semas.length : Int) := by have := List.length_pos_iff.2 hc; omega
        have hT : semasT x = lnT 2 [59] ([.s ([115, 101, 109, 97, 115]), .s (numsT x.semas)] : List Arg) := if_neg hc
        have hl1 := congrArg List.length hT
        rw [lnT_len] at hl1
        have hl2 := hl1
        simp only [sayT, Arg.txt, List.map_cons, List.map_nil, List.flatten_cons, List.flatten_nil, List.length_append, List.length_cons, List.length_nil] at hl2
        go_wp2_with fail
        have hBb : B ≤ wb.heap.size := Nat.le_trans hBw HBb.out.size
        refine wp_region_tail (S := fun w' => Below wb.heap.size wb w') 9 (by kernel_rfl) (by kernel_rfl) (Below.refl _ _).drew (fun hHeld => ?_)
        generalize wb.drew = U at *
        refine tk 0 36 rfl (by kernel_rfl) (fun _ _ _ h => h) rfl (fun _ _ => by go_simp; with_reducible rfl) hHeld ?_
        (try simp only [Act.put, putA, putB, putC])
        refine tk 1 37 rfl (by kernel_rfl) (fun _ _ _ h => h) rfl (fun _ _ => by go_simp; with_reducible rfl) hHeld ?_
        (try simp only [Act.put, putA, putB, putC])
        refine tk 2 38 rfl (by kernel_rfl) (fun _ _ _ h => h) rfl (fun _ _ => by go_simp; with_reducible rfl) hHeld ?_
        (try simp only [Act.put, putA, putB, putC])
        refine tk 3 39 rfl (by kernel_rfl) (fun _ _ _ h => h) rfl (fun _ _ => by go_simp; with_reducible rfl) hHeld ?_
        (try simp only [Act.put, putA, putB, putC])
        refine tk 4 40 rfl (by kernel_rfl) (fun _ _ _ h => h) rfl (fun _ _ => by go_simp; with_reducible rfl) hHeld ?_
        (try simp only [Act.put, putA, putB, putC])
        refine wpAnyT_take (i := 5) (oi := ⟨some 41, _, _, _, _, _⟩) (v := ?_) rfl (by kernel_rfl) (fun _ _ _ h => h) (Or.inl ⟨by rfl, ?_⟩) hHeld ?_
        rotate_left
        · intro v hS
          have e0 := (hS.cell (p := ⟨W.heap.size, 4, none⟩) hxl).trans x4
          go_simp
          with_reducible rfl
        (try simp only [Act.put, putA, putB, putC])
        refine wpAnyT_ready (rs := [6]) (by kernel_rfl) (by simp) (by rfl) (AllT.cons rfl (fun K hK => ?_) AllT.nil)
        go_simp
        have HI := hide (join_nums (.slice A4 x.semas.length q4) x.semas U (hide (((HG4.out.lateG (HBb.out)).lateG (hHeld.mono hBb)).mono (fun _ _ _ => trivial))) (by omega) HSM (Nat.le_trans hGB (Nat.le_trans hBb hHeld.size)) (hide (hE.out.keptB (HBb.out.trans (hHeld.mono hBb)) hGB)))
        refine HI.out.mono ?_
        rintro e Ua ⟨rfl, hb⟩
        have hSUa := hHeld.trans (hb.mono hHeld.size)
        clear hb HI hHeld
        go_wp2_with fail
        refine hK.out _ _ hSUa (fun hHeld => ?_)
        clear hK K hSUa
        (try simp only [Act.put, putA, putB, putC])
        refine tk 7 43 rfl (by kernel_rfl) (fun _ _ _ h => h) rfl (fun _ _ => by go_simp; with_reducible rfl) hHeld ?_
        (try simp only [Act.put, putA, putB, putC])
        refine wpAnyT_ready (rs := [8]) (by kernel_rfl) (by simp) (by rfl) (AllT.cons rfl (fun K hK => ?_) AllT.nil)
        refine if_goal (by rfl) ?_
        have HD := hide (any_new Ua ([.s ([115, 101, 109, 97, 115]), .s (numsT x.semas)] : List Arg) (b := b) (HPb.out.later hHeld).lt)
        refine wp_value (exec_bs (ps := #[(0, .iface 9 (.string ⟨([115, 101, 109, 97, 115]).toArray⟩)), (1, .iface 9 (.string ⟨(numsT x.semas).toArray⟩))]) rfl (by kernel_rfl) (bs2 _ _ _ _ Ua)) ?_
        refine hK.out _ _ (hHeld.alloc hHeld.size _) (fun hHeld1 => ?_)
        clear hK K hHeld
        (try simp only [Act.put, putA])
        refine wpAnyT_done (by kernel_rfl) ?_
        simp only [List.drop_succ_cons, List.drop_zero]
        have HBl := hide (HBb.out.trans (hHeld1.mono hBb))
        have HKl := hide (HKb.out.trans (.later hHeld1))
        have HC := hide (ln_any B b k8 _ 2 [59] _ ([.s ([115, 101, 109, 97, 115]), .s (numsT x.semas)] : List Arg) _ (hide (HPb.out.later hHeld1)) HD (hide (ok_s (ok_s ok_nil))) (by simp) (by omega) (by simp) (by simp only [List.length_append]; omega) (Nat.le_trans hBb hHeld1.size) hGB (hide (hE.out.keptB HBl.out hGB)))
        clear hHeld1 HD
        go_wp2_with fail
        refine HC.out.mono ?_
        rintro e wy ⟨rfl, h1, h2, h3⟩
        have HPy := hide h1
        have HBy := hide (HBl.out.trans h2)
        have HKy := hide (HKl.out.trans h3)
        clear h1 h2 h3 HC HBl HKl
        rw [← hT] at HPy
        go_wp2_with fail
        go_meet
        exact ⟨HPy, HBy, HKy⟩
  case rest =>
    clear HPb HBb HKb HXw x4 hxl
    obtain ⟨HPc, HBc, HKc⟩ := hcut
    obtain ⟨wsc, rfl⟩ : ∃ wsc, wsc = wc := ⟨_, rfl⟩
    have HXw := hide ((HKc.out.block W.heap.size hxb HOx.out).trans HXb.out)
    have hxl : W.heap.size < wsc.heap.size := (Array.getElem?_eq_some_iff.1 HXw.out).1
    have x5 := cell_of_row _ _ 5 _ _ _ HXw.out
    go_upto_if 48 with fail
    go_cut [] (fun wx => Hid (PrAt B b k8 (L ++ partH x ++ semasT x ++ eventsT x) wx) ∧ Hid (Below B W wx) ∧ Hid (PrK b w0 wx))
    case first =>
      as_aux_lemma =>
        by_cases hc : ¬ 0 < x.events
        · have he : eventsT x = [] := if_neg hc
          have hn1 : ¬ (0 : Int) < x.events := hc
          go_wp2_with fail
          go_meet
          exact ⟨hide (by rw [he, List.append_nil]; exact HPc.out), HBc, HKc⟩
        · have hnc := hide hc
          have hT : eventsT x = lnT 2 [59] ([.s ([101, 118, 101, 110, 116, 115]), .n (x.events)] : List Arg) := if_pos (by omega)
          have hn1 : (0 : Int) < x.events := by omega
          have hl1 := congrArg List.length hT
          rw [lnT_len] at hl1
          go_wp2_with fail
          have hBc : B ≤ wsc.heap.size := Nat.le_trans hBw HBc.out.size
          refine wp_region_tail (S := fun w' => Below wsc.heap.size wsc w') 8 (by kernel_rfl) (by kernel_rfl) (Below.refl _ _).drew (fun hHeld => ?_)
          generalize wsc.drew = U at *
          refine tk 0 49 rfl (by kernel_rfl) (fun _ _ _ h => h) rfl (fun _ _ => by go_simp; with_reducible rfl) hHeld ?_
          (try simp only [Act.put, putA, putB, putC])
          refine tk 1 50 rfl (by kernel_rfl) (fun _ _ _ h => h) rfl (fun _ _ => by go_simp; with_reducible rfl) hHeld ?_
          (try simp only [Act.put, putA, putB, putC])
          refine tk 2 51 rfl (by kernel_rfl) (fun _ _ _ h => h) rfl (fun _ _ => by go_simp; with_reducible rfl) hHeld ?_
          (try simp only [Act.put, putA, putB, putC])
          refine tk 3 52 rfl (by kernel_rfl) (fun _ _ _ h => h) rfl (fun _ _ => by go_simp; with_reducible rfl) hHeld ?_
          (try simp only [Act.put, putA, putB, putC])
          refine tk 4 53 rfl (by kernel_rfl) (fun _ _ _ h => h) rfl (fun _ _ => by go_simp; with_reducible rfl) hHeld ?_
          (try simp only [Act.put, putA, putB, putC])
          refine wpAnyT_take (i := 5) (oi := ⟨some 54, _, _, _, _, _⟩) (v := ?_) rfl (by kernel_rfl) (fun _ _ _ h => h) (Or.inl ⟨by rfl, ?_⟩) hHeld ?_
          rotate_left
          · intro v hS
            have e0 := (hS.cell (p := ⟨W.heap.size, 5, none⟩) hxl).trans x5
            go_simp
            with_reducible rfl
          (try simp only [Act.put, putA, putB, putC])
          refine tk 6 55 rfl (by kernel_rfl) (fun _ _ _ h => h) rfl (fun _ _ => by go_simp; with_reducible rfl) hHeld ?_
          (try simp only [Act.put, putA, putB, putC])
          refine wpAnyT_ready (rs := [7]) (by kernel_rfl) (by simp) (by rfl) (AllT.cons rfl (fun K hK => ?_) AllT.nil)
          refine if_goal (by rfl) ?_
          have HD := hide (any_new U ([.s ([101, 118, 101, 110, 116, 115]), .n (x.events)] : List Arg) (b := b) (HPc.out.later hHeld).lt)
          refine wp_value (exec_bs (ps := #[(0, .iface 9 (.string ⟨([101, 118, 101, 110, 116, 115]).toArray⟩)), (1, .iface 3 (.int .i64 x.events))]) rfl (by kernel_rfl) (bs2 _ _ _ _ U)) ?_
          refine hK.out _ _ (hHeld.alloc hHeld.size _) (fun hHeld1 => ?_)
          clear hK K hHeld
          (try simp only [Act.put, putA])
          refine wpAnyT_done (by kernel_rfl) ?_
          simp only [List.drop_succ_cons, List.drop_zero]
          have HBl := hide (HBc.out.trans (hHeld1.mono hBc))
          have HKl := hide (HKc.out.trans (.later hHeld1))
          have HC := hide (ln_any B b k8 _ 2 [59] _ ([.s ([101, 118, 101, 110, 116, 115]), .n (x.events)] : List Arg) _ (hide (HPc.out.later hHeld1)) HD (hide (ok_s (ok_n n3 ok_nil))) (by simp) (by omega) (by simp) (by simp only [List.length_append]; omega) (Nat.le_trans hBc hHeld1.size) hGB (hide (hE.out.keptB HBl.out hGB)))
          clear hHeld1 HD
          go_wp2_with fail
          refine HC.out.mono ?_
          rintro e wy ⟨rfl, h1, h2, h3⟩
          have HPy := hide h1
          have HBy := hide (HBl.out.trans h2)
          have HKy := hide (HKl.out.trans h3)
          clear h1 h2 h3 HC HBl HKl
          rw [← hT] at HPy
          go_wp2_with fail
          go_meet
          exact ⟨HPy, HBy, HKy⟩
    case rest =>
      clear HPc HBc HKc HXw x5 hxl
      obtain ⟨HPd, HBd, HKd⟩ := hcut
      obtain ⟨wsd, rfl⟩ : ∃ wsd, wsd = wc := ⟨_, rfl⟩
      have HXw := hide ((HKd.out.block W.heap.size hxb HOx.out).trans HXb.out)
      have hxl : W.heap.size < wsd.heap.size := (Array.getElem?_eq_some_iff.1 HXw.out).1
      have x6 := cell_of_row _ _ 6 _ _ _ HXw.out
      go_upto_if 60 with fail
      go_cut [] (fun wx => Hid (PrAt B b k8 (L ++ partH x ++ semasT x ++ eventsT x ++ boardsT x) wx) ∧ Hid (Below B W wx) ∧ Hid (PrK b w0 wx))
      case first =>
        as_aux_lemma =>
          by_cases hc : ¬ 0 < x.boards
          · have he : boardsT x = [] := if_neg hc
            have hn1 : ¬ (0 : Int) < x.boards := hc
            go_wp2_with fail
            go_meet
            exact ⟨hide (by rw [he, List.append_nil]; exact HPd.out), HBd, HKd⟩
          · have hnc := hide hc
            have hT : boardsT x = lnT 2 [59] ([.s ([98, 111, 97, 114, 100, 115]), .n (x.boards)] : List Arg) := if_pos (by omega)
            have hn1 : (0 : Int) < x.boards := by omega
            have hl1 := congrArg List.length hT
            rw [lnT_len] at hl1
            go_wp2_with fail
            have hBd : B ≤ wsd.heap.size := Nat.le_trans hBw HBd.out.size
            refine wp_region_tail (S := fun w' => Below wsd.heap.size wsd w') 8 (by kernel_rfl) (by kernel_rfl) (Below.refl _ _).drew (fun hHeld => ?_)
            generalize wsd.drew = U at *
            refine tk 0 61 rfl (by kernel_rfl) (fun _ _ _ h => h) rfl (fun _ _ => by go_simp; with_reducible rfl) hHeld ?_
            (try simp only [Act.put, putA, putB, putC])
            refine tk 1 62 rfl (by kernel_rfl) (fun _ _ _ h => h) rfl (fun _ _ => by go_simp; with_reducible rfl) hHeld ?_
            (try simp only [Act.put, putA, putB, putC])
            refine tk 2 63 rfl (by kernel_rfl) (fun _ _ _ h => h) rfl (fun _ _ => by go_simp; with_reducible rfl) hHeld ?_
            (try simp only [Act.put, putA, putB, putC])
            refine tk 3 64 rfl (by kernel_rfl) (fun _ _ _ h => h) rfl (fun _ _ => by go_simp; with_reducible rfl) hHeld ?_
            (try simp only [Act.put, putA, putB, putC])
            refine tk 4 65 rfl (by kernel_rfl) (fun _ _ _ h => h) rfl (fun _ _ => by go_simp; with_reducible rfl) hHeld ?_
            (try simp only [Act.put, putA, putB, putC])
            refine wpAnyT_take (i := 5) (oi := ⟨some 66, _, _, _, _, _⟩) (v := ?_) rfl (by kernel_rfl) (fun _ _ _ h => h) (Or.inl ⟨by rfl, ?_⟩) hHeld ?_
            rotate_left
            · intro v hS
              have e0 := (hS.cell (p := ⟨W.heap.size, 6, none⟩) hxl).trans x6
              go_simp
              with_reducible rfl
            (try simp only [Act.put, putA, putB, putC])
            refine tk 6 67 rfl (by kernel_rfl) (fun _ _ _ h => h) rfl (fun _ _ => by go_simp; with_reducible rfl) hHeld ?_
            (try simp only [Act.put, putA, putB, putC])
            refine wpAnyT_ready (rs := [7]) (by kernel_rfl) (by simp) (by rfl) (AllT.cons rfl (fun K hK => ?_) AllT.nil)
            refine if_goal (by rfl) ?_
            have HD := hide (any_new U ([.s ([98, 111, 97, 114, 100, 115]), .n (x.boards)] : List Arg) (b := b) (HPd.out.later hHeld).lt)
            refine wp_value (exec_bs (ps := #[(0, .iface 9 (.string ⟨([98, 111, 97, 114, 100, 115]).toArray⟩)), (1, .iface 3 (.int .i64 x.boards))]) rfl (by kernel_rfl) (bs2 _ _ _ _ U)) ?_
            refine hK.out _ _ (hHeld.alloc hHeld.size _) (fun hHeld1 => ?_)
            clear hK K hHeld
            (try simp only [Act.put, putA])
            refine wpAnyT_done (by kernel_rfl) ?_
            simp only [List.drop_succ_cons, List.drop_zero]
            have HBl := hide (HBd.out.trans (hHeld1.mono hBd))
            have HKl := hide (HKd.out.trans (.later hHeld1))
            have HC := hide (ln_any B b k8 _ 2 [59] _ ([.s ([98, 111, 97, 114, 100, 115]), .n (x.boards)] : List Arg) _ (hide (HPd.out.later hHeld1)) HD (hide (ok_s (ok_n n4 ok_nil))) (by simp) (by omega) (by simp) (by simp only [List.length_append]; omega) (Nat.le_trans hBd hHeld1.size) hGB (hide (hE.out.keptB HBl.out hGB)))
            clear hHeld1 HD
            go_wp2_with fail
            refine HC.out.mono ?_
            rintro e wy ⟨rfl, h1, h2, h3⟩
            have HPy := hide h1
            have HBy := hide (HBl.out.trans h2)
            have HKy := hide (HKl.out.trans h3)
            clear h1 h2 h3 HC HBl HKl
            rw [← hT] at HPy
            go_wp2_with fail
            go_meet
            exact ⟨HPy, HBy, HKy⟩
      case rest =>
        clear HPd HBd HKd HXw x6 hxl
        obtain ⟨HPe, HBe, HKe⟩ := hcut
        obtain ⟨wse, rfl⟩ : ∃ wse, wse = wc := ⟨_, rfl⟩
        have HXw := hide ((HKe.out.block W.heap.size hxb HOx.out).trans HXb.out)
        have hxl : W.heap.size < wse.heap.size := (Array.getElem?_eq_some_iff.1 HXw.out).1
        have x7 := cell_of_row _ _ 7 _ _ _ HXw.out
        go_upto_if 73 with fail
        go_cut [] (fun wx => Hid (PrAt B b k8 (L ++ partH x ++ semasT x ++ eventsT x ++ boardsT x ++ bufsT x) wx) ∧ Hid (Below B W wx) ∧ Hid (PrK b w0 wx))
        case first =>
          as_aux_lemma =>
            by_cases hc : x.bufs = []
            · have he : bufsT x = [] := if_pos hc
              have hn0 : x.bufs.length = 0 := by rw [hc]; rfl
              rw [hn0] at x7
              go_wp2_with fail
              go_meet
              exact ⟨hide (by rw [he, List.append_nil]; exact HPe.out), HBe, HKe⟩
            · have hnc := hide hc
              have hn1 : (0 : Int) < (x.bufs.length : Int) := by have := List.length_pos_iff.2 hc; omega
              have hT : bufsT x = lnT 2 [59] ([.s ([98, 117, 102, 115]), .s (numsT x.bufs)] : List Arg) := if_neg hc
              have hl1 := congrArg List.length hT
              rw [lnT_len] at hl1
              have hl2 := hl1
              simp only [sayT, Arg.txt, List.map_cons, List.map_nil, List.flatten_cons, List.flatten_nil, List.length_append, List.length_cons, List.length_nil] at hl2
              go_wp2_with fail
              have hBe : B ≤ wse.heap.size := Nat.le_trans hBw HBe.out.size
              refine wp_region_tail (S := fun w' => Below wse.heap.size wse w') 9 (by kernel_rfl) (by kernel_rfl) (Below.refl _ _).drew (fun hHeld => ?_)
              generalize wse.drew = U at *
              refine tk 0 74 rfl (by kernel_rfl) (fun _ _ _ h => h) rfl (fun _ _ => by go_simp; with_reducible rfl) hHeld ?_
              (try simp only [Act.put, putA, putB, putC])
              refine tk 1 75 rfl (by kernel_rfl) (fun _ _ _ h => h) rfl (fun _ _ => by go_simp; with_reducible rfl) hHeld ?_
              (try simp only [Act.put, putA, putB, putC])
              refine tk 2 76 rfl (by kernel_rfl) (fun _ _ _ h => h) rfl (fun _ _ => by go_simp; with_reducible rfl) hHeld ?_
              (try simp only [Act.put, putA, putB, putC])
              refine tk 3 77 rfl (by kernel_rfl) (fun _ _ _ h => h) rfl (fun _ _ => by go_simp; with_reducible rfl) hHeld ?_
              (try simp only [Act.put, putA, putB, putC])
              refine tk 4 78 rfl (by kernel_rfl) (fun _ _ _ h => h) rfl (fun _ _ => by go_simp; with_reducible rfl) hHeld ?_
              (try simp only [Act.put, putA, putB, putC])
              refine wpAnyT_take (i := 5) (oi := ⟨some 79, _, _, _, _, _⟩) (v := ?_) rfl (by kernel_rfl) (fun _ _ _ h => h) (Or.inl ⟨by rfl, ?_⟩) hHeld ?_
              rotate_left
              · intro v hS
                have e0 := (hS.cell (p := ⟨W.heap.size, 7, none⟩) hxl).trans x7
                go_simp
                with_reducible rfl
              (try simp only [Act.put, putA, putB, putC])
              refine wpAnyT_ready (rs := [6]) (by kernel_rfl) (by simp) (by rfl) (AllT.cons rfl (fun K hK => ?_) AllT.nil)
              go_simp
              have HI := hide (join_nums (.slice A7 x.bufs.length q7) x.bufs U (hide (((HG7.out.lateG (HBe.out)).lateG (hHeld.mono hBe)).mono (fun _ _ _ => trivial))) (by omega) HBF (Nat.le_trans hGB (Nat.le_trans hBe hHeld.size)) (hide (hE.out.keptB (HBe.out.trans (hHeld.mono hBe)) hGB)))
              refine HI.out.mono ?_
              rintro e Ua ⟨rfl, hb⟩
              have hSUa := hHeld.trans (hb.mono hHeld.size)
              clear hb HI hHeld
              go_wp2_with fail
              refine hK.out _ _ hSUa (fun hHeld => ?_)
              clear hK K hSUa
              (try simp only [Act.put, putA, putB, putC])
              refine tk 7 81 rfl (by kernel_rfl) (fun _ _ _ h => h) rfl (fun _ _ => by go_simp; with_reducible rfl) hHeld ?_
              (try simp only [Act.put, putA, putB, putC])
              refine wpAnyT_ready (rs := [8]) (by kernel_rfl) (by simp) (by rfl) (AllT.cons rfl (fun K hK => ?_) AllT.nil)
              refine if_goal (by rfl) ?_
              have HD := hide (any_new Ua ([.s ([98, 117, 102, 115]), .s (numsT x.bufs)] : List Arg) (b := b) (HPe.out.later hHeld).lt)
              refine wp_value (exec_bs (ps := #[(0, .iface 9 (.string ⟨([98, 117, 102, 115]).toArray⟩)), (1, .iface 9 (.string ⟨(numsT x.bufs).toArray⟩))]) rfl (by kernel_rfl) (bs2 _ _ _ _ Ua)) ?_
              refine hK.out _ _ (hHeld.alloc hHeld.size _) (fun hHeld1 => ?_)
              clear hK K hHeld
              (try simp only [Act.put, putA])
              refine wpAnyT_done (by kernel_rfl) ?_
              simp only [List.drop_succ_cons, List.drop_zero]
              have HBl := hide (HBe.out.trans (hHeld1.mono hBe))
              have HKl := hide (HKe.out.trans (.later hHeld1))
              have HC := hide (ln_any B b k8 _ 2 [59] _ ([.s ([98, 117, 102, 115]), .s (numsT x.bufs)] : List Arg) _ (hide (HPe.out.later hHeld1)) HD (hide (ok_s (ok_s ok_nil))) (by simp) (by omega) (by simp) (by simp only [List.length_append]; omega) (Nat.le_trans hBe hHeld1.size) hGB (hide (hE.out.keptB HBl.out hGB)))
              clear hHeld1 HD
              go_wp2_with fail
              refine HC.out.mono ?_
              rintro e wy ⟨rfl, h1, h2, h3⟩
              have HPy := hide h1
              have HBy := hide (HBl.out.trans h2)
              have HKy := hide (HKl.out.trans h3)
              clear h1 h2 h3 HC HBl HKl
              rw [← hT] at HPy
              go_wp2_with fail
              go_meet
              exact ⟨HPy, HBy, HKy⟩
        case rest =>
          clear HPe HBe HKe HXw x7 hxl
          obtain ⟨HPf, HBf, HKf⟩ := hcut
          obtain ⟨wsf, rfl⟩ : ∃ wsf, wsf = wc := ⟨_, rfl⟩
          have HXw := hide ((HKf.out.block W.heap.size hxb HOx.out).trans HXb.out)
          have x8 := cell_of_row _ _ 8 _ _ _ HXw.out
          go_wp2_with fail
          clear x8 HXw
          go_loopw [87] (fun v wr => ∃ k : Nat, k ≤ x.ports.length ∧ v = .int .i64 k ∧ PrAt B b k8 (L ++ partH x ++ semasT x ++ eventsT x ++ boardsT x ++ bufsT x ++ catT portT (x.ports.take k)) wr ∧ Below B W wr ∧ PrK b w0 wr) (fun v _ => x.ports.length - (intOf v).toNat)
          case atStart => exact ⟨0, by omega, rfl, by rw [catT_zero, List.append_nil]; exact HPf.out, HBf.out, HKf.out⟩
          case round =>
            obtain ⟨k, hk, rfl, hp, hbr, hkr⟩ := hrel
            have HPr := hide hp
            have HBr := hide hbr
            have HKr := hide hkr
            clear hp hbr hkr
            by_cases hlt : k < x.ports.length
            · as_aux_lemma =>
                go_light
                obtain ⟨y, hy⟩ : ∃ y, x.ports[k]? = some y := ⟨_, List.getElem?_eq_getElem hlt⟩
                obtain ⟨g, off, rfl, hG, hg, hca⟩ := (HR8.out.keep HBr.out).at_ hy
                obtain ⟨uy0, c0, g0⟩ := hca 0 _ rfl
                obtain rfl := g0.leaf_eq
                obtain ⟨uy1, c1, g1⟩ := hca 1 _ rfl
                obtain rfl := g1.leaf_eq
                obtain ⟨uy2, c2, g2⟩ := hca 2 _ rfl
                obtain rfl := g2.leaf_eq
                obtain ⟨uy3, c3, g3⟩ := hca 3 _ rfl
                obtain rfl := g3.leaf_eq
                obtain ⟨uy4, c4, g4⟩ := hca 4 _ rfl
                obtain rfl := g4.leaf_eq
                obtain ⟨uy5, c5, g5⟩ := hca 5 _ rfl
                obtain rfl := g5.leaf_eq
                clear hca g0 g1 g2 g3 g4 g5
                (try simp only [strV] at c0 c1 c2 c3 c4 c5)
                rw [Nat.add_zero] at c0
                have k0 : (0 : Int) ≤ (k : Int) ∧ (k : Int) < ((x.ports.length : Nat) : Int) := by omega
                have HXy := hide hy
                have hroomy := catT_room (f := portT) hy
                clear hy
                have hpf := List.all_eq_true.1 HPT.out y (List.mem_of_getElem? HXy.out)
                simp only [portF, Bool.and_eq_true, List.all_cons, List.all_nil, Bool.and_true] at hpf
                obtain ⟨hkd, -, m0, m1, m2⟩ := hpf
                have HXyb := hide (heap_alloc_new wr (.cells #[.string ⟨y.name.toArray⟩, .int .u8 (y.kind : Int), .bool y.out, .int .i64 y.size, .int .i64 y.depth, .int .i64 y.refresh] 59))
                have HBAy := hide ((Below.refl wr.heap.size wr).alloc (Nat.le_refl _) (.cells #[.string ⟨y.name.toArray⟩, .int .u8 (y.kind : Int), .bool y.out, .int .i64 y.size, .int .i64 y.depth, .int .i64 y.refresh] 59))
                have hyl : wr.heap.size < (wr.alloc (.cells #[.string ⟨y.name.toArray⟩, .int .u8 (y.kind : Int), .bool y.out, .int .i64 y.size, .int .i64 y.depth, .int .i64 y.refresh] 59)).heap.size := by simp
                have hkk : y.kind = 1 ∨ y.kind = 2 := by simp only [kindsF, Bool.or_eq_true, Bool.and_eq_true, beq_iff_eq] at hkd; omega
                rcases hkk with hk1 | hk1
                · have hT : portT y = lnT 2 [59] ([.s (wayT y), .s (y.name), .s ([115, 97, 109, 112, 108, 105, 110, 103, 32, 115, 105, 122, 101]), .n (y.size), .s ([114, 101, 102, 114, 101, 115, 104]), .n (y.refresh)] : List Arg) := if_pos hk1
                  have hl1 := congrArg List.length hT
                  rw [lnT_len] at hl1
                  have hkz : (y.kind : Int) = 1 := by omega
                  rw [hkz] at c1
                  rw [hkz] at HXyb HBAy hyl
                  clear hkz
                  cases ho : y.out with
                  | true =>
                    have hw : ([111, 117, 116] : List UInt8) = wayT y := by unfold wayT; rw [ho]; rfl
                    rw [ho] at c2 HXyb HBAy hyl
                    clear ho hk1
                    go_wp2_with fail
                    clear c0 c1 c2 c3 c4 c5
                    generalize wr.alloc (.cells #[.string ⟨y.name.toArray⟩, .int .u8 1, .bool true, .int .i64 y.size, .int .i64 y.depth, .int .i64 y.refresh] 59) = w1 at *
                    have HPg := hide (HPr.out.later HBAy.out)
                    have HBg := hide (HBr.out.trans (HBAy.out.mono (Nat.le_trans hBw HBr.out.size)))
                    have HKg := hide (HKr.out.trans (.later HBAy.out))
                    have y0 := cell_of_row _ _ 0 _ _ _ HXyb.out
                    have y1 := cell_of_row _ _ 1 _ _ _ HXyb.out
                    have y2 := cell_of_row _ _ 2 _ _ _ HXyb.out
                    have y3 := cell_of_row _ _ 3 _ _ _ HXyb.out
                    have y5 := cell_of_row _ _ 5 _ _ _ HXyb.out
                    go_wp2_with fail
                    rw [← hw] at hT hl1
                    have HT := hide hT
                    clear hw hT
                    have hBg : B ≤ w1.heap.size := Nat.le_trans hBw HBg.out.size
                    refine wp_region_tail (S := fun w' => Below w1.heap.size w1 w') 17 (by kernel_rfl) (by kernel_rfl) (Below.refl _ _).drew (fun hHeld => ?_)
                    generalize w1.drew = U at *
                    refine tk 0 96 rfl (by kernel_rfl) (fun _ _ _ h => h) rfl (fun _ _ => by go_simp; with_reducible rfl) hHeld ?_
                    (try simp only [Act.put, putA, putB, putC])
                    refine tk 1 97 rfl (by kernel_rfl) (fun _ _ _ h => h) rfl (fun _ _ => by go_simp; with_reducible rfl) hHeld ?_
                    (try simp only [Act.put, putA, putB, putC])
                    refine tk 2 98 rfl (by kernel_rfl) (fun _ _ _ h => h) rfl (fun _ _ => by go_simp; with_reducible rfl) hHeld ?_
                    (try simp only [Act.put, putA, putB, putC])
                    refine tk 3 99 rfl (by kernel_rfl) (fun _ _ _ h => h) rfl (fun _ _ => by go_simp; with_reducible rfl) hHeld ?_
                    (try simp only [Act.put, putA, putB, putC])
                    refine tk 4 100 rfl (by kernel_rfl) (fun _ _ _ h => h) rfl (fun _ _ => by go_simp; with_reducible rfl) hHeld ?_
                    (try simp only [Act.put, putA, putB, putC])
                    refine tk 5 101 rfl (by kernel_rfl) (fun _ _ _ h => h) rfl (fun _ _ => by go_simp; with_reducible rfl) hHeld ?_
                    (try simp only [Act.put, putA, putB, putC])
                    refine wpAnyT_take (i := 6) (oi := ⟨some 102, _, _, _, _, _⟩) (v := ?_) rfl (by kernel_rfl) (fun _ _ _ h => h) (Or.inl ⟨by rfl, ?_⟩) hHeld ?_
                    rotate_left
                    · intro v hS
                      have e0 := (hS.cell (p := ⟨wr.heap.size, 0, none⟩) hyl).trans y0
                      go_simp
                      with_reducible rfl
                    (try simp only [Act.put, putA, putB, putC])
                    refine tk 7 103 rfl (by kernel_rfl) (fun _ _ _ h => h) rfl (fun _ _ => by go_simp; with_reducible rfl) hHeld ?_
                    (try simp only [Act.put, putA, putB, putC])
                    refine tk 8 104 rfl (by kernel_rfl) (fun _ _ _ h => h) rfl (fun _ _ => by go_simp; with_reducible rfl) hHeld ?_
                    (try simp only [Act.put, putA, putB, putC])
                    refine tk 9 105 rfl (by kernel_rfl) (fun _ _ _ h => h) rfl (fun _ _ => by go_simp; with_reducible rfl) hHeld ?_
                    (try simp only [Act.put, putA, putB, putC])
                    refine wpAnyT_take (i := 10) (oi := ⟨some 106, _, _, _, _, _⟩) (v := ?_) rfl (by kernel_rfl) (fun _ _ _ h => h) (Or.inl ⟨by rfl, ?_⟩) hHeld ?_
                    rotate_left
                    · intro v hS
                      have e0 := (hS.cell (p := ⟨wr.heap.size, 3, none⟩) hyl).trans y3
                      go_simp
                      with_reducible rfl
                    (try simp only [Act.put, putA, putB, putC])
                    refine tk 11 107 rfl (by kernel_rfl) (fun _ _ _ h => h) rfl (fun _ _ => by go_simp; with_reducible rfl) hHeld ?_
                    (try simp only [Act.put, putA, putB, putC])
                    refine tk 12 108 rfl (by kernel_rfl) (fun _ _ _ h => h) rfl (fun _ _ => by go_simp; with_reducible rfl) hHeld ?_
                    (try simp only [Act.put, putA, putB, putC])
                    refine tk 13 109 rfl (by kernel_rfl) (fun _ _ _ h => h) rfl (fun _ _ => by go_simp; with_reducible rfl) hHeld ?_
                    (try simp only [Act.put, putA, putB, putC])
                    refine wpAnyT_take (i := 14) (oi := ⟨some 110, _, _, _, _, _⟩) (v := ?_) rfl (by kernel_rfl) (fun _ _ _ h => h) (Or.inl ⟨by rfl, ?_⟩) hHeld ?_
                    rotate_left
                    · intro v hS
                      have e0 := (hS.cell (p := ⟨wr.heap.size, 5, none⟩) hyl).trans y5
                      go_simp
                      with_reducible rfl
                    (try simp only [Act.put, putA, putB, putC])
                    refine tk 15 111 rfl (by kernel_rfl) (fun _ _ _ h => h) rfl (fun _ _ => by go_simp; with_reducible rfl) hHeld ?_
                    (try simp only [Act.put, putA, putB, putC])
                    refine wpAnyT_ready (rs := [16]) (by kernel_rfl) (by simp) (by rfl) (AllT.cons rfl (fun K hK => ?_) AllT.nil)
                    refine if_goal (by rfl) ?_
                    have HD := hide (any_new U ([.s ([111, 117, 116]), .s (y.name), .s ([115, 97, 109, 112, 108, 105, 110, 103, 32, 115, 105, 122, 101]), .n (y.size), .s ([114, 101, 102, 114, 101, 115, 104]), .n (y.refresh)] : List Arg) (b := b) (HPg.out.later hHeld).lt)
                    refine wp_value (exec_bs (ps := #[(0, .iface 9 (.string ⟨([111, 117, 116]).toArray⟩)), (1, .iface 9 (.string ⟨(y.name).toArray⟩)), (2, .iface 9 (.string ⟨([115, 97, 109, 112, 108, 105, 110, 103, 32, 115, 105, 122, 101]).toArray⟩)), (3, .iface 3 (.int .i64 y.size)), (4, .iface 9 (.string ⟨([114, 101, 102, 114, 101, 115, 104]).toArray⟩)), (5, .iface 3 (.int .i64 y.refresh))]) rfl (by kernel_rfl) (bs6 _ _ _ _ _ _ _ _ _ _ _ _ U)) ?_
                    refine hK.out _ _ (hHeld.alloc hHeld.size _) (fun hHeld1 => ?_)
                    clear hK K hHeld
                    (try simp only [Act.put, putA])
                    refine wpAnyT_done (by kernel_rfl) ?_
                    simp only [List.drop_succ_cons, List.drop_zero]
                    have HBl := hide (HBg.out.trans (hHeld1.mono hBg))
                    have HKl := hide (HKg.out.trans (.later hHeld1))
                    have HC := hide (ln_any B b k8 _ 2 [59] _ ([.s ([111, 117, 116]), .s (y.name), .s ([115, 97, 109, 112, 108, 105, 110, 103, 32, 115, 105, 122, 101]), .n (y.size), .s ([114, 101, 102, 114, 101, 115, 104]), .n (y.refresh)] : List Arg) _ (hide (HPg.out.later hHeld1)) HD (hide (ok_s (ok_s (ok_s (ok_n m0 (ok_s (ok_n m2 ok_nil))))))) (by simp) (by omega) (by simp) (by simp only [List.length_append]; omega) (Nat.le_trans hBg hHeld1.size) hGB (hide (hE.out.keptB HBl.out hGB)))
                    clear hHeld1 HD
                    go_wp2_with fail
                    refine HC.out.mono ?_
                    rintro e wz ⟨rfl, h1, h2, h3⟩
                    have HPz := hide h1
                    have HBz := hide (HBl.out.trans h2)
                    have HKz := hide (HKl.out.trans h3)
                    clear h1 h2 h3 HC HBl HKl
                    go_wp2_with fail
                    go_roundw
                    case rel => exact ⟨k + 1, by omega, by go_num, by rw [catT_step HXy.out, HT.out, ← List.append_assoc]; exact HPz.out, HBz.out, HKz.out⟩
                    case measure => simp [intOf]; omega
                  | false =>
                    have hw : ([105, 110] : List UInt8) = wayT y := by unfold wayT; rw [ho]; rfl
                    rw [ho] at c2 HXyb HBAy hyl
                    clear ho hk1
                    go_wp2_with fail
                    clear c0 c1 c2 c3 c4 c5
                    generalize wr.alloc (.cells #[.string ⟨y.name.toArray⟩, .int .u8 1, .bool false, .int .i64 y.size, .int .i64 y.depth, .int .i64 y.refresh] 59) = w1 at *
                    have HPg := hide (HPr.out.later HBAy.out)
                    have HBg := hide (HBr.out.trans (HBAy.out.mono (Nat.le_trans hBw HBr.out.size)))
                    have HKg := hide (HKr.out.trans (.later HBAy.out))
                    have y0 := cell_of_row _ _ 0 _ _ _ HXyb.out
                    have y1 := cell_of_row _ _ 1 _ _ _ HXyb.out
                    have y2 := cell_of_row _ _ 2 _ _ _ HXyb.out
                    have y3 := cell_of_row _ _ 3 _ _ _ HXyb.out
                    have y5 := cell_of_row _ _ 5 _ _ _ HXyb.out
                    go_wp2_with fail
                    rw [← hw] at hT hl1
                    have HT := hide hT
                    clear hw hT
                    have hBg : B ≤ w1.heap.size := Nat.le_trans hBw HBg.out.size
                    refine wp_region_tail (S := fun w' => Below w1.heap.size w1 w') 17 (by kernel_rfl) (by kernel_rfl) (Below.refl _ _).drew (fun hHeld => ?_)
                    generalize w1.drew = U at *
                    refine tk 0 96 rfl (by kernel_rfl) (fun _ _ _ h => h) rfl (fun _ _ => by go_simp; with_reducible rfl) hHeld ?_
                    (try simp only [Act.put, putA, putB, putC])
                    refine tk 1 97 rfl (by kernel_rfl) (fun _ _ _ h => h) rfl (fun _ _ => by go_simp; with_reducible rfl) hHeld ?_
                    (try simp only [Act.put, putA, putB, putC])
                    refine tk 2 98 rfl (by kernel_rfl) (fun _ _ _ h => h) rfl (fun _ _ => by go_simp; with_reducible rfl) hHeld ?_
                    (try simp only [Act.put, putA, putB, putC])
                    refine tk 3 99 rfl (by kernel_rfl) (fun _ _ _ h => h) rfl (fun _ _ => by go_simp; with_reducible rfl) hHeld ?_
                    (try simp only [Act.put, putA, putB, putC])
                    refine tk 4 100 rfl (by kernel_rfl) (fun _ _ _ h => h) rfl (fun _ _ => by go_simp; with_reducible rfl) hHeld ?_
                    (try simp only [Act.put, putA, putB, putC])
                    refine tk 5 101 rfl (by kernel_rfl) (fun _ _ _ h => h) rfl (fun _ _ => by go_simp; with_reducible rfl) hHeld ?_
                    (try simp only [Act.put, putA, putB, putC])
                    refine wpAnyT_take (i := 6) (oi := ⟨some 102, _, _, _, _, _⟩) (v := ?_) rfl (by kernel_rfl) (fun _ _ _ h => h) (Or.inl ⟨by rfl, ?_⟩) hHeld ?_
                    rotate_left
                    · intro v hS
                      have e0 := (hS.cell (p := ⟨wr.heap.size, 0, none⟩) hyl).trans y0
                      go_simp
                      with_reducible rfl
                    (try simp only [Act.put, putA, putB, putC])
                    refine tk 7 103 rfl (by kernel_rfl) (fun _ _ _ h => h) rfl (fun _ _ => by go_simp; with_reducible rfl) hHeld ?_
                    (try simp only [Act.put, putA, putB, putC])
                    refine tk 8 104 rfl (by kernel_rfl) (fun _ _ _ h => h) rfl (fun _ _ => by go_simp; with_reducible rfl) hHeld ?_
                    (try simp only [Act.put, putA, putB, putC])
                    refine tk 9 105 rfl (by kernel_rfl) (fun _ _ _ h => h) rfl (fun _ _ => by go_simp; with_reducible rfl) hHeld ?_
                    (try simp only [Act.put, putA, putB, putC])
                    refine wpAnyT_take (i := 10) (oi := ⟨some 106, _, _, _, _, _⟩) (v := ?_) rfl (by kernel_rfl) (fun _ _ _ h => h) (Or.inl ⟨by rfl, ?_⟩) hHeld ?_
                    rotate_left
                    · intro v hS
                      have e0 := (hS.cell (p := ⟨wr.heap.size, 3, none⟩) hyl).trans y3
                      go_simp
                      with_reducible rfl
                    (try simp only [Act.put, putA, putB, putC])
                    refine tk 11 107 rfl (by kernel_rfl) (fun _ _ _ h => h) rfl (fun _ _ => by go_simp; with_reducible rfl) hHeld ?_
                    (try simp only [Act.put, putA, putB, putC])
                    refine tk 12 108 rfl (by kernel_rfl) (fun _ _ _ h => h) rfl (fun _ _ => by go_simp; with_reducible rfl) hHeld ?_
                    (try simp only [Act.put, putA, putB, putC])
                    refine tk 13 109 rfl (by kernel_rfl) (fun _ _ _ h => h) rfl (fun _ _ => by go_simp; with_reducible rfl) hHeld ?_
                    (try simp only [Act.put, putA, putB, putC])
                    refine wpAnyT_take (i := 14) (oi := ⟨some 110, _, _, _, _, _⟩) (v := ?_) rfl (by kernel_rfl) (fun _ _ _ h => h) (Or.inl ⟨by rfl, ?_⟩) hHeld ?_
                    rotate_left
                    · intro v hS
                      have e0 := (hS.cell (p := ⟨wr.heap.size, 5, none⟩) hyl).trans y5
                      go_simp
                      with_reducible rfl
                    (try simp only [Act.put, putA, putB, putC])
                    refine tk 15 111 rfl (by kernel_rfl) (fun _ _ _ h => h) rfl (fun _ _ => by go_simp; with_reducible rfl) hHeld ?_
                    (try simp only [Act.put, putA, putB, putC])
                    refine wpAnyT_ready (rs := [16]) (by kernel_rfl) (by simp) (by rfl) (AllT.cons rfl (fun K hK => ?_) AllT.nil)
                    refine if_goal (by rfl) ?_
                    have HD := hide (any_new U ([.s ([105, 110]), .s (y.name), .s ([115, 97, 109, 112, 108, 105, 110, 103, 32, 115, 105, 122, 101]), .n (y.size), .s ([114, 101, 102, 114, 101, 115, 104]), .n (y.refresh)] : List Arg) (b := b) (HPg.out.later hHeld).lt)
                    refine wp_value (exec_bs (ps := #[(0, .iface 9 (.string ⟨([105, 110]).toArray⟩)), (1, .iface 9 (.string ⟨(y.name).toArray⟩)), (2, .iface 9 (.string ⟨([115, 97, 109, 112, 108, 105, 110, 103, 32, 115, 105, 122, 101]).toArray⟩)), (3, .iface 3 (.int .i64 y.size)), (4, .iface 9 (.string ⟨([114, 101, 102, 114, 101, 115, 104]).toArray⟩)), (5, .iface 3 (.int .i64 y.refresh))]) rfl (by kernel_rfl) (bs6 _ _ _ _ _ _ _ _ _ _ _ _ U)) ?_
                    refine hK.out _ _ (hHeld.alloc hHeld.size _) (fun hHeld1 => ?_)
                    clear hK K hHeld
                    (try simp only [Act.put, putA])
                    refine wpAnyT_done (by kernel_rfl) ?_
                    simp only [List.drop_succ_cons, List.drop_zero]
                    have HBl := hide (HBg.out.trans (hHeld1.mono hBg))
                    have HKl := hide (HKg.out.trans (.later hHeld1))
                    have HC := hide (ln_any B b k8 _ 2 [59] _ ([.s ([105, 110]), .s (y.name), .s ([115, 97, 109, 112, 108, 105, 110, 103, 32, 115, 105, 122, 101]), .n (y.size), .s ([114, 101, 102, 114, 101, 115, 104]), .n (y.refresh)] : List Arg) _ (hide (HPg.out.later hHeld1)) HD (hide (ok_s (ok_s (ok_s (ok_n m0 (ok_s (ok_n m2 ok_nil))))))) (by simp) (by omega) (by simp) (by simp only [List.length_append]; omega) (Nat.le_trans hBg hHeld1.size) hGB (hide (hE.out.keptB HBl.out hGB)))
                    clear hHeld1 HD
                    go_wp2_with fail
                    refine HC.out.mono ?_
                    rintro e wz ⟨rfl, h1, h2, h3⟩
                    have HPz := hide h1
                    have HBz := hide (HBl.out.trans h2)
                    have HKz := hide (HKl.out.trans h3)
                    clear h1 h2 h3 HC HBl HKl
                    go_wp2_with fail
                    go_roundw
                    case rel => exact ⟨k + 1, by omega, by go_num, by rw [catT_step HXy.out, HT.out, ← List.append_assoc]; exact HPz.out, HBz.out, HKz.out⟩
                    case measure => simp [intOf]; omega
                · have hT : portT y = lnT 2 [59] ([.s (wayT y), .s (y.name), .s ([113, 117, 101, 117, 105, 110, 103, 32, 115, 105, 122, 101]), .n (y.size), .s ([100, 101, 112, 116, 104]), .n (y.depth)] : List Arg) := if_neg (by omega)
                  have hl1 := congrArg List.length hT
                  rw [lnT_len] at hl1
                  have hkz : (y.kind : Int) = 2 := by omega
                  rw [hkz] at c1
                  rw [hkz] at HXyb HBAy hyl
                  clear hkz
                  cases ho : y.out with
                  | true =>
                    have hw : ([111, 117, 116] : List UInt8) = wayT y := by unfold wayT; rw [ho]; rfl
                    rw [ho] at c2 HXyb HBAy hyl
                    clear ho hk1
                    go_wp2_with fail
                    clear c0 c1 c2 c3 c4 c5
                    generalize wr.alloc (.cells #[.string ⟨y.name.toArray⟩, .int .u8 2, .bool true, .int .i64 y.size, .int .i64 y.depth, .int .i64 y.refresh] 59) = w1 at *
                    have HPg := hide (HPr.out.later HBAy.out)
                    have HBg := hide (HBr.out.trans (HBAy.out.mono (Nat.le_trans hBw HBr.out.size)))
                    have HKg := hide (HKr.out.trans (.later HBAy.out))
                    have y0 := cell_of_row _ _ 0 _ _ _ HXyb.out
                    have y1 := cell_of_row _ _ 1 _ _ _ HXyb.out
                    have y2 := cell_of_row _ _ 2 _ _ _ HXyb.out
                    have y3 := cell_of_row _ _ 3 _ _ _ HXyb.out
                    have y4 := cell_of_row _ _ 4 _ _ _ HXyb.out
                    go_wp2_with fail
                    rw [← hw] at hT hl1
                    have HT := hide hT
                    clear hw hT
                    have hBg : B ≤ w1.heap.size := Nat.le_trans hBw HBg.out.size
                    refine wp_region_tail (S := fun w' => Below w1.heap.size w1 w') 17 (by kernel_rfl) (by kernel_rfl) (Below.refl _ _).drew (fun hHeld => ?_)
                    generalize w1.drew = U at *
                    refine tk 0 114 rfl (by kernel_rfl) (fun _ _ _ h => h) rfl (fun _ _ => by go_simp; with_reducible rfl) hHeld ?_
                    (try simp only [Act.put, putA, putB, putC])
                    refine tk 1 115 rfl (by kernel_rfl) (fun _ _ _ h => h) rfl (fun _ _ => by go_simp; with_reducible rfl) hHeld ?_
                    (try simp only [Act.put, putA, putB, putC])
                    refine tk 2 116 rfl (by kernel_rfl) (fun _ _ _ h => h) rfl (fun _ _ => by go_simp; with_reducible rfl) hHeld ?_
                    (try simp only [Act.put, putA, putB, putC])
                    refine tk 3 117 rfl (by kernel_rfl) (fun _ _ _ h => h) rfl (fun _ _ => by go_simp; with_reducible rfl) hHeld ?_
                    (try simp only [Act.put, putA, putB, putC])
                    refine tk 4 118 rfl (by kernel_rfl) (fun _ _ _ h => h) rfl (fun _ _ => by go_simp; with_reducible rfl) hHeld ?_
                    (try simp only [Act.put, putA, putB, putC])
                    refine tk 5 119 rfl (by kernel_rfl) (fun _ _ _ h => h) rfl (fun _ _ => by go_simp; with_reducible rfl) hHeld ?_
                    (try simp only [Act.put, putA, putB, putC])
                    refine wpAnyT_take (i := 6) (oi := ⟨some 120, _, _, _, _, _⟩) (v := ?_) rfl (by kernel_rfl) (fun _ _ _ h => h) (Or.inl ⟨by rfl, ?_⟩) hHeld ?_
                    rotate_left
                    · intro v hS
                      have e0 := (hS.cell (p := ⟨wr.heap.size, 0, none⟩) hyl).trans y0
                      go_simp
                      with_reducible rfl
                    (try simp only [Act.put, putA, putB, putC])
                    refine tk 7 121 rfl (by kernel_rfl) (fun _ _ _ h => h) rfl (fun _ _ => by go_simp; with_reducible rfl) hHeld ?_
                    (try simp only [Act.put, putA, putB, putC])
                    refine tk 8 122 rfl (by kernel_rfl) (fun _ _ _ h => h) rfl (fun _ _ => by go_simp; with_reducible rfl) hHeld ?_
                    (try simp only [Act.put, putA, putB, putC])
                    refine tk 9 123 rfl (by kernel_rfl) (fun _ _ _ h => h) rfl (fun _ _ => by go_simp; with_reducible rfl) hHeld ?_
                    (try simp only [Act.put, putA, putB, putC])
                    refine wpAnyT_take (i := 10) (oi := ⟨some 124, _, _, _, _, _⟩) (v := ?_) rfl (by kernel_rfl) (fun _ _ _ h => h) (Or.inl ⟨by rfl, ?_⟩) hHeld ?_
                    rotate_left
                    · intro v hS
                      have e0 := (hS.cell (p := ⟨wr.heap.size, 3, none⟩) hyl).trans y3
                      go_simp
                      with_reducible rfl
                    (try simp only [Act.put, putA, putB, putC])
                    refine tk 11 125 rfl (by kernel_rfl) (fun _ _ _ h => h) rfl (fun _ _ => by go_simp; with_reducible rfl) hHeld ?_
                    (try simp only [Act.put, putA, putB, putC])
                    refine tk 12 126 rfl (by kernel_rfl) (fun _ _ _ h => h) rfl (fun _ _ => by go_simp; with_reducible rfl) hHeld ?_
                    (try simp only [Act.put, putA, putB, putC])
                    refine tk 13 127 rfl (by kernel_rfl) (fun _ _ _ h => h) rfl (fun _ _ => by go_simp; with_reducible rfl) hHeld ?_
                    (try simp only [Act.put, putA, putB, putC])
                    refine wpAnyT_take (i := 14) (oi := ⟨some 128, _, _, _, _, _⟩) (v := ?_) rfl (by kernel_rfl) (fun _ _ _ h => h) (Or.inl ⟨by rfl, ?_⟩) hHeld ?_
                    rotate_left
                    · intro v hS
                      have e0 := (hS.cell (p := ⟨wr.heap.size, 4, none⟩) hyl).trans y4
                      go_simp
                      with_reducible rfl
                    (try simp only [Act.put, putA, putB, putC])
                    refine tk 15 129 rfl (by kernel_rfl) (fun _ _ _ h => h) rfl (fun _ _ => by go_simp; with_reducible rfl) hHeld ?_
                    (try simp only [Act.put, putA, putB, putC])
                    refine wpAnyT_ready (rs := [16]) (by kernel_rfl) (by simp) (by rfl) (AllT.cons rfl (fun K hK => ?_) AllT.nil)
                    refine if_goal (by rfl) ?_
                    have HD := hide (any_new U ([.s ([111, 117, 116]), .s (y.name), .s ([113, 117, 101, 117, 105, 110, 103, 32, 115, 105, 122, 101]), .n (y.size), .s ([100, 101, 112, 116, 104]), .n (y.depth)] : List Arg) (b := b) (HPg.out.later hHeld).lt)
                    refine wp_value (exec_bs (ps := #[(0, .iface 9 (.string ⟨([111, 117, 116]).toArray⟩)), (1, .iface 9 (.string ⟨(y.name).toArray⟩)), (2, .iface 9 (.string ⟨([113, 117, 101, 117, 105, 110, 103, 32, 115, 105, 122, 101]).toArray⟩)), (3, .iface 3 (.int .i64 y.size)), (4, .iface 9 (.string ⟨([100, 101, 112, 116, 104]).toArray⟩)), (5, .iface 3 (.int .i64 y.depth))]) rfl (by kernel_rfl) (bs6 _ _ _ _ _ _ _ _ _ _ _ _ U)) ?_
                    refine hK.out _ _ (hHeld.alloc hHeld.size _) (fun hHeld1 => ?_)
                    clear hK K hHeld
                    (try simp only [Act.put, putA])
                    refine wpAnyT_done (by kernel_rfl) ?_
                    simp only [List.drop_succ_cons, List.drop_zero]
                    have HBl := hide (HBg.out.trans (hHeld1.mono hBg))
                    have HKl := hide (HKg.out.trans (.later hHeld1))
                    have HC := hide (ln_any B b k8 _ 2 [59] _ ([.s ([111, 117, 116]), .s (y.name), .s ([113, 117, 101, 117, 105, 110, 103, 32, 115, 105, 122, 101]), .n (y.size), .s ([100, 101, 112, 116, 104]), .n (y.depth)] : List Arg) _ (hide (HPg.out.later hHeld1)) HD (hide (ok_s (ok_s (ok_s (ok_n m0 (ok_s (ok_n m1 ok_nil))))))) (by simp) (by omega) (by simp) (by simp only [List.length_append]; omega) (Nat.le_trans hBg hHeld1.size) hGB (hide (hE.out.keptB HBl.out hGB)))
                    clear hHeld1 HD
                    go_wp2_with fail
                    refine HC.out.mono ?_
                    rintro e wz ⟨rfl, h1, h2, h3⟩
                    have HPz := hide h1
                    have HBz := hide (HBl.out.trans h2)
                    have HKz := hide (HKl.out.trans h3)
                    clear h1 h2 h3 HC HBl HKl
                    go_wp2_with fail
                    go_roundw
                    case rel => exact ⟨k + 1, by omega, by go_num, by rw [catT_step HXy.out, HT.out, ← List.append_assoc]; exact HPz.out, HBz.out, HKz.out⟩
                    case measure => simp [intOf]; omega
                  | false =>
                    have hw : ([105, 110] : List UInt8) = wayT y := by unfold wayT; rw [ho]; rfl
                    rw [ho] at c2 HXyb HBAy hyl
                    clear ho hk1
                    go_wp2_with fail
                    clear c0 c1 c2 c3 c4 c5
                    generalize wr.alloc (.cells #[.string ⟨y.name.toArray⟩, .int .u8 2, .bool false, .int .i64 y.size, .int .i64 y.depth, .int .i64 y.refresh] 59) = w1 at *
                    have HPg := hide (HPr.out.later HBAy.out)
                    have HBg := hide (HBr.out.trans (HBAy.out.mono (Nat.le_trans hBw HBr.out.size)))
                    have HKg := hide (HKr.out.trans (.later HBAy.out))
                    have y0 := cell_of_row _ _ 0 _ _ _ HXyb.out
                    have y1 := cell_of_row _ _ 1 _ _ _ HXyb.out
                    have y2 := cell_of_row _ _ 2 _ _ _ HXyb.out
                    have y3 := cell_of_row _ _ 3 _ _ _ HXyb.out
                    have y4 := cell_of_row _ _ 4 _ _ _ HXyb.out
                    go_wp2_with fail
                    rw [← hw] at hT hl1
                    have HT := hide hT
                    clear hw hT
                    have hBg : B ≤ w1.heap.size := Nat.le_trans hBw HBg.out.size
                    refine wp_region_tail (S := fun w' => Below w1.heap.size w1 w') 17 (by kernel_rfl) (by kernel_rfl) (Below.refl _ _).drew (fun hHeld => ?_)
                    generalize w1.drew = U at *
                    refine tk 0 114 rfl (by kernel_rfl) (fun _ _ _ h => h) rfl (fun _ _ => by go_simp; with_reducible rfl) hHeld ?_
                    (try simp only [Act.put, putA, putB, putC])
                    refine tk 1 115 rfl (by kernel_rfl) (fun _ _ _ h => h) rfl (fun _ _ => by go_simp; with_reducible rfl) hHeld ?_
                    (try simp only [Act.put, putA, putB, putC])
                    refine tk 2 116 rfl (by kernel_rfl) (fun _ _ _ h => h) rfl (fun _ _ => by go_simp; with_reducible rfl) hHeld ?_
                    (try simp only [Act.put, putA, putB, putC])
                    refine tk 3 117 rfl (by kernel_rfl) (fun _ _ _ h => h) rfl (fun _ _ => by go_simp; with_reducible rfl) hHeld ?_
                    (try simp only [Act.put, putA, putB, putC])
                    refine tk 4 118 rfl (by kernel_rfl) (fun _ _ _ h => h) rfl (fun _ _ => by go_simp; with_reducible rfl) hHeld ?_
                    (try simp only [Act.put, putA, putB, putC])
                    refine tk 5 119 rfl (by kernel_rfl) (fun _ _ _ h => h) rfl (fun _ _ => by go_simp; with_reducible rfl) hHeld ?_
                    (try simp only [Act.put, putA, putB, putC])
                    refine wpAnyT_take (i := 6) (oi := ⟨some 120, _, _, _, _, _⟩) (v := ?_) rfl (by kernel_rfl) (fun _ _ _ h => h) (Or.inl ⟨by rfl, ?_⟩) hHeld ?_
                    rotate_left
                    · intro v hS
                      have e0 := (hS.cell (p := ⟨wr.heap.size, 0, none⟩) hyl).trans y0
                      go_simp
                      with_reducible rfl
                    (try simp only [Act.put, putA, putB, putC])
                    refine tk 7 121 rfl (by kernel_rfl) (fun _ _ _ h => h) rfl (fun _ _ => by go_simp; with_reducible rfl) hHeld ?_
                    (try simp only [Act.put, putA, putB, putC])
                    refine tk 8 122 rfl (by kernel_rfl) (fun _ _ _ h => h) rfl (fun _ _ => by go_simp; with_reducible rfl) hHeld ?_
                    (try simp only [Act.put, putA, putB, putC])
                    refine tk 9 123 rfl (by kernel_rfl) (fun _ _ _ h => h) rfl (fun _ _ => by go_simp; with_reducible rfl) hHeld ?_
                    (try simp only [Act.put, putA, putB, putC])
                    refine wpAnyT_take (i := 10) (oi := ⟨some 124, _, _, _, _, _⟩) (v := ?_) rfl (by kernel_rfl) (fun _ _ _ h => h) (Or.inl ⟨by rfl, ?_⟩) hHeld ?_
                    rotate_left
                    · intro v hS
                      have e0 := (hS.cell (p := ⟨wr.heap.size, 3, none⟩) hyl).trans y3
                      go_simp
                      with_reducible rfl
                    (try simp only [Act.put, putA, putB, putC])
                    refine tk 11 125 rfl (by kernel_rfl) (fun _ _ _ h => h) rfl (fun _ _ => by go_simp; with_reducible rfl) hHeld ?_
                    (try simp only [Act.put, putA, putB, putC])
                    refine tk 12 126 rfl (by kernel_rfl) (fun _ _ _ h => h) rfl (fun _ _ => by go_simp; with_reducible rfl) hHeld ?_
                    (try simp only [Act.put, putA, putB, putC])
                    refine tk 13 127 rfl (by kernel_rfl) (fun _ _ _ h => h) rfl (fun _ _ => by go_simp; with_reducible rfl) hHeld ?_
                    (try simp only [Act.put, putA, putB, putC])
                    refine wpAnyT_take (i := 14) (oi := ⟨some 128, _, _, _, _, _⟩) (v := ?_) rfl (by kernel_rfl) (fun _ _ _ h => h) (Or.inl ⟨by rfl, ?_⟩) hHeld ?_
                    rotate_left
                    · intro v hS
                      have e0 := (hS.cell (p := ⟨wr.heap.size, 4, none⟩) hyl).trans y4
                      go_simp
                      with_reducible rfl
                    (try simp only [Act.put, putA, putB, putC])
                    refine tk 15 129 rfl (by kernel_rfl) (fun _ _ _ h => h) rfl (fun _ _ => by go_simp; with_reducible rfl) hHeld ?_
                    (try simp only [Act.put, putA, putB, putC])
                    refine wpAnyT_ready (rs := [16]) (by kernel_rfl) (by simp) (by rfl) (AllT.cons rfl (fun K hK => ?_) AllT.nil)
                    refine if_goal (by rfl) ?_
                    have HD := hide (any_new U ([.s ([105, 110]), .s (y.name), .s ([113, 117, 101, 117, 105, 110, 103, 32, 115, 105, 122, 101]), .n (y.size), .s ([100, 101, 112, 116, 104]), .n (y.depth)] : List Arg) (b := b) (HPg.out.later hHeld).lt)
                    refine wp_value (exec_bs (ps := #[(0, .iface 9 (.string ⟨([105, 110]).toArray⟩)), (1, .iface 9 (.string ⟨(y.name).toArray⟩)), (2, .iface 9 (.string ⟨([113, 117, 101, 117, 105, 110, 103, 32, 115, 105, 122, 101]).toArray⟩)), (3, .iface 3 (.int .i64 y.size)), (4, .iface 9 (.string ⟨([100, 101, 112, 116, 104]).toArray⟩)), (5, .iface 3 (.int .i64 y.depth))]) rfl (by kernel_rfl) (bs6 _ _ _ _ _ _ _ _ _ _ _ _ U)) ?_
                    refine hK.out _ _ (hHeld.alloc hHeld.size _) (fun hHeld1 => ?_)
                    clear hK K hHeld
                    (try simp only [Act.put, putA])
                    refine wpAnyT_done (by kernel_rfl) ?_
                    simp only [List.drop_succ_cons, List.drop_zero]
                    have HBl := hide (HBg.out.trans (hHeld1.mono hBg))
                    have HKl := hide (HKg.out.trans (.later hHeld1))
                    have HC := hide (ln_any B b k8 _ 2 [59] _ ([.s ([105, 110]), .s (y.name), .s ([113, 117, 101, 117, 105, 110, 103, 32, 115, 105, 122, 101]), .n (y.size), .s ([100, 101, 112, 116, 104]), .n (y.depth)] : List Arg) _ (hide (HPg.out.later hHeld1)) HD (hide (ok_s (ok_s (ok_s (ok_n m0 (ok_s (ok_n m1 ok_nil))))))) (by simp) (by omega) (by simp) (by simp only [List.length_append]; omega) (Nat.le_trans hBg hHeld1.size) hGB (hide (hE.out.keptB HBl.out hGB)))
                    clear hHeld1 HD
                    go_wp2_with fail
                    refine HC.out.mono ?_
                    rintro e wz ⟨rfl, h1, h2, h3⟩
                    have HPz := hide h1
                    have HBz := hide (HBl.out.trans h2)
                    have HKz := hide (HKl.out.trans h3)
                    clear h1 h2 h3 HC HBl HKl
                    go_wp2_with fail
                    go_roundw
                    case rel => exact ⟨k + 1, by omega, by go_num, by rw [catT_step HXy.out, HT.out, ← List.append_assoc]; exact HPz.out, HBz.out, HKz.out⟩
                    case measure => simp [intOf]; omega
            obtain rfl : k = x.ports.length := by omega
            rw [List.take_length] at HPr
            clear hlt HPf HBf HKf
            obtain ⟨wh, hwh⟩ : ∃ wh, wh = wr := ⟨_, rfl⟩
            subst hwh
            have HXw := hide ((HKr.out.block W.heap.size hxb HOx.out).trans HXb.out)
            have x9 := cell_of_row _ _ 9 _ _ _ HXw.out
            go_wp2_with fail
            clear x9 HXw
            go_loopw [136] (fun v wr => ∃ k : Nat, k ≤ x.procs.length ∧ v = .int .i64 k ∧ PrAt B b k8 (L ++ partH x ++ semasT x ++ eventsT x ++ boardsT x ++ bufsT x ++ catT portT x.ports ++ catT procT (x.procs.take k)) wr ∧ Below B W wr ∧ PrK b w0 wr) (fun v _ => x.procs.length - (intOf v).toNat)
            case atStart => exact ⟨0, by omega, rfl, by rw [catT_zero, List.append_nil]; exact HPr.out, HBr.out, HKr.out⟩
            case round =>
              clear HPr HBr HKr
              obtain ⟨k, hk, rfl, hp, hbr, hkr⟩ := hrel
              have HPr := hide hp
              have HBr := hide hbr
              have HKr := hide hkr
              clear hp hbr hkr
              by_cases hlt : k < x.procs.length
              rotate_left
              · obtain rfl : k = x.procs.length := by omega
                rw [List.take_length] at HPr
                clear hlt
                go_wp2_with fail
                have HC := hide (ln_any B b k8 _ 1 [125] _ ([] : List Arg) wr HPr (hide (.nil none 0 1)) (hide ok_nil) (by simp) (by omega) (by simp) (by simp only [List.length_append, sayT, List.length_nil]; omega) (Nat.le_trans hBw HBr.out.size) hGB (hide (hE.out.keptB HBr.out hGB)))
                refine HC.out.mono ?_
                rintro e wz ⟨rfl, h1, h2, h3⟩
                have HPz := hide h1
                have HBz := hide (HBr.out.trans h2)
                have HKz := hide (HKr.out.trans h3)
                clear h1 h2 h3 HC
                go_wp2_with fail
                go_end0
                exact ⟨rfl, HPz.out, HBz.out, HKW.out.trans HKz.out⟩
              obtain ⟨y, hy⟩ : ∃ y, x.procs[k]? = some y := ⟨_, List.getElem?_eq_getElem hlt⟩
              obtain ⟨g, off, rfl, hG, hg, hca⟩ := (HR9.out.keep HBr.out).at_ hy
              obtain ⟨uy0, c0, g0⟩ := hca 0 _ rfl
              obtain rfl := g0.leaf_eq
              obtain ⟨uy1, c1, g1⟩ := hca 1 _ rfl
              obtain rfl := g1.leaf_eq
              obtain ⟨uy2, c2, g2⟩ := hca 2 _ rfl
              obtain rfl := g2.leaf_eq
              obtain ⟨uy3, c3, g3⟩ := hca 3 _ rfl
              obtain rfl := g3.leaf_eq
              obtain ⟨uy4, c4, g4⟩ := hca 4 _ rfl
              have HGy4 := hide g4
              obtain ⟨Ay4, qy4, rfl, hry4⟩ := g4.sliceG
              have HRy4 := hide hry4
              clear hry4
              rw [List.length_map] at HGy4 c4
              clear hca g0 g1 g2 g3 g4
              (try simp only [strV] at c0 c1 c2 c3 c4)
              rw [Nat.add_zero] at c0
              have k0 : (0 : Int) ≤ (k : Int) ∧ (k : Int) < ((x.procs.length : Nat) : Int) := by omega
              have HXy := hide hy
              have hroomy := catT_room (f := procT) hy
              clear hy
              have hpf := List.all_eq_true.1 HPR.out y (List.mem_of_getElem? HXy.out)
              have hzf := HZ.out y (List.mem_of_getElem? HXy.out)
              have hzl := hzf.1
              simp only [procF, Bool.and_eq_true, List.all_cons, List.all_nil, Bool.and_true] at hpf
              obtain ⟨-, ⟨m0, m1, m2⟩, hco⟩ := hpf
              have HCO := hide hco
              clear hco
              have hcl : (procT y).length = (procH y).length + (catT codeT y.code).length + 4 := by
                have : (lnT 2 [125] []).length = 4 := by rw [lnT_len]; rfl
                simp only [procT, List.length_append]
                omega
              have HXyb := hide (heap_alloc_new wr (.cells #[.string ⟨y.name.toArray⟩, .int .i64 y.prio, .int .i64 y.period, .int .i64 y.limit, .slice Ay4 y.code.length qy4] 31))
              have HBAy := hide ((Below.refl wr.heap.size wr).alloc (Nat.le_refl _) (.cells #[.string ⟨y.name.toArray⟩, .int .i64 y.prio, .int .i64 y.period, .int .i64 y.limit, .slice Ay4 y.code.length qy4] 31))
              have hyl : wr.heap.size < (wr.alloc (.cells #[.string ⟨y.name.toArray⟩, .int .i64 y.prio, .int .i64 y.period, .int .i64 y.limit, .slice Ay4 y.code.length qy4] 31)).heap.size := by simp
              go_wp2_with fail
              clear c0 c1 c2 c3 c4
              generalize wr.alloc (.cells #[.string ⟨y.name.toArray⟩, .int .i64 y.prio, .int .i64 y.period, .int .i64 y.limit, .slice Ay4 y.code.length qy4] 31) = w1 at *
              have HPg := hide (HPr.out.later HBAy.out)
              have HBg := hide (HBr.out.trans (HBAy.out.mono (Nat.le_trans hBw HBr.out.size)))
              have HKg := hide (HKr.out.trans (.later HBAy.out))
              have y0 := cell_of_row _ _ 0 _ _ _ HXyb.out
              have y1 := cell_of_row _ _ 1 _ _ _ HXyb.out
              have y2 := cell_of_row _ _ 2 _ _ _ HXyb.out
              have y3 := cell_of_row _ _ 3 _ _ _ HXyb.out
              have y4 := cell_of_row _ _ 4 _ _ _ HXyb.out
              have HBy1 := hide (HBAy.out.mono (Nat.le_trans hBw HBr.out.size))
              have hyb : wr.heap.size ≠ b := by have := HPr.out.lt; omega
              have HOy : Hid (Oth w1 wr.heap.size) := hide ⟨_, _, _, HXyb.out, by decide⟩
              have HKy1 := hide (PrK.refl b w1)
              have hl1 : (procH y).length = 2 + (sayT ([.s ([112, 114, 111, 99]), .s (y.name), .s ([112, 114, 105, 111]), .n (y.prio), .s ([112, 101, 114, 105, 111, 100]), .n (y.period), .s ([108, 105, 109, 105, 116]), .n (y.limit)] : List Arg)).length + 3 := by rw [procH, lnT_len]; rfl
              have hBg : B ≤ w1.heap.size := Nat.le_trans hBw HBg.out.size
              refine wp_region_tail (S := fun w' => Below w1.heap.size w1 w') 20 (by kernel_rfl) (by kernel_rfl) (Below.refl _ _).drew (fun hHeld => ?_)
              generalize w1.drew = U at *
              refine tk 0 140 rfl (by kernel_rfl) (fun _ _ _ h => h) rfl (fun _ _ => by go_simp; with_reducible rfl) hHeld ?_
              (try simp only [Act.put, putA, putB, putC])
              refine tk 1 141 rfl (by kernel_rfl) (fun _ _ _ h => h) rfl (fun _ _ => by go_simp; with_reducible rfl) hHeld ?_
              (try simp only [Act.put, putA, putB, putC])
              refine tk 2 142 rfl (by kernel_rfl) (fun _ _ _ h => h) rfl (fun _ _ => by go_simp; with_reducible rfl) hHeld ?_
              (try simp only [Act.put, putA, putB, putC])
              refine tk 3 143 rfl (by kernel_rfl) (fun _ _ _ h => h) rfl (fun _ _ => by go_simp; with_reducible rfl) hHeld ?_
              (try simp only [Act.put, putA, putB, putC])
              refine tk 4 144 rfl (by kernel_rfl) (fun _ _ _ h => h) rfl (fun _ _ => by go_simp; with_reducible rfl) hHeld ?_
              (try simp only [Act.put, putA, putB, putC])
              refine wpAnyT_take (i := 5) (oi := ⟨some 145, _, _, _, _, _⟩) (v := ?_) rfl (by kernel_rfl) (fun _ _ _ h => h) (Or.inl ⟨by rfl, ?_⟩) hHeld ?_
              rotate_left
              · intro v hS
                have e0 := (hS.cell (p := ⟨wr.heap.size, 0, none⟩) hyl).trans y0
                go_simp
                with_reducible rfl
              (try simp only [Act.put, putA, putB, putC])
              refine tk 6 146 rfl (by kernel_rfl) (fun _ _ _ h => h) rfl (fun _ _ => by go_simp; with_reducible rfl) hHeld ?_
              (try simp only [Act.put, putA, putB, putC])
              refine tk 7 147 rfl (by kernel_rfl) (fun _ _ _ h => h) rfl (fun _ _ => by go_simp; with_reducible rfl) hHeld ?_
              (try simp only [Act.put, putA, putB, putC])
              refine tk 8 148 rfl (by kernel_rfl) (fun _ _ _ h => h) rfl (fun _ _ => by go_simp; with_reducible rfl) hHeld ?_
              (try simp only [Act.put, putA, putB, putC])
              refine wpAnyT_take (i := 9) (oi := ⟨some 149, _, _, _, _, _⟩) (v := ?_) rfl (by kernel_rfl) (fun _ _ _ h => h) (Or.inl ⟨by rfl, ?_⟩) hHeld ?_
              rotate_left
              · intro v hS
                have e0 := (hS.cell (p := ⟨wr.heap.size, 1, none⟩) hyl).trans y1
                go_simp
                with_reducible rfl
              (try simp only [Act.put, putA, putB, putC])
              refine tk 10 150 rfl (by kernel_rfl) (fun _ _ _ h => h) rfl (fun _ _ => by go_simp; with_reducible rfl) hHeld ?_
              (try simp only [Act.put, putA, putB, putC])
              refine tk 11 151 rfl (by kernel_rfl) (fun _ _ _ h => h) rfl (fun _ _ => by go_simp; with_reducible rfl) hHeld ?_
              (try simp only [Act.put, putA, putB, putC])
              refine tk 12 152 rfl (by kernel_rfl) (fun _ _ _ h => h) rfl (fun _ _ => by go_simp; with_reducible rfl) hHeld ?_
              (try simp only [Act.put, putA, putB, putC])
              refine wpAnyT_take (i := 13) (oi := ⟨some 153, _, _, _, _, _⟩) (v := ?_) rfl (by kernel_rfl) (fun _ _ _ h => h) (Or.inl ⟨by rfl, ?_⟩) hHeld ?_
              rotate_left
              · intro v hS
                have e0 := (hS.cell (p := ⟨wr.heap.size, 2, none⟩) hyl).trans y2
                go_simp
                with_reducible rfl
              (try simp only [Act.put, putA, putB, putC])
              refine tk 14 154 rfl (by kernel_rfl) (fun _ _ _ h => h) rfl (fun _ _ => by go_simp; with_reducible rfl) hHeld ?_
              (try simp only [Act.put, putA, putB, putC])
              refine tk 15 155 rfl (by kernel_rfl) (fun _ _ _ h => h) rfl (fun _ _ => by go_simp; with_reducible rfl) hHeld ?_
              (try simp only [Act.put, putA, putB, putC])
              refine tk 16 156 rfl (by kernel_rfl) (fun _ _ _ h => h) rfl (fun _ _ => by go_simp; with_reducible rfl) hHeld ?_
              (try simp only [Act.put, putA, putB, putC])
              refine wpAnyT_take (i := 17) (oi := ⟨some 157, _, _, _, _, _⟩) (v := ?_) rfl (by kernel_rfl) (fun _ _ _ h => h) (Or.inl ⟨by rfl, ?_⟩) hHeld ?_
              rotate_left
              · intro v hS
                have e0 := (hS.cell (p := ⟨wr.heap.size, 3, none⟩) hyl).trans y3
                go_simp
                with_reducible rfl
              (try simp only [Act.put, putA, putB, putC])
              refine tk 18 158 rfl (by kernel_rfl) (fun _ _ _ h => h) rfl (fun _ _ => by go_simp; with_reducible rfl) hHeld ?_
              (try simp only [Act.put, putA, putB, putC])
              refine wpAnyT_ready (rs := [19]) (by kernel_rfl) (by simp) (by rfl) (AllT.cons rfl (fun K hK => ?_) AllT.nil)
              refine if_goal (by rfl) ?_
              have HD := hide (any_new U ([.s ([112, 114, 111, 99]), .s (y.name), .s ([112, 114, 105, 111]), .n (y.prio), .s ([112, 101, 114, 105, 111, 100]), .n (y.period), .s ([108, 105, 109, 105, 116]), .n (y.limit)] : List Arg) (b := b) (HPg.out.later hHeld).lt)
              refine wp_value (exec_bs (ps := #[(0, .iface 9 (.string ⟨([112, 114, 111, 99]).toArray⟩)), (1, .iface 9 (.string ⟨(y.name).toArray⟩)), (2, .iface 9 (.string ⟨([112, 114, 105, 111]).toArray⟩)), (3, .iface 3 (.int .i64 y.prio)), (4, .iface 9 (.string ⟨([112, 101, 114, 105, 111, 100]).toArray⟩)), (5, .iface 3 (.int .i64 y.period)), (6, .iface 9 (.string ⟨([108, 105, 109, 105, 116]).toArray⟩)), (7, .iface 3 (.int .i64 y.limit))]) rfl (by kernel_rfl) (bs8 _ _ _ _ _ _ _ _ _ _ _ _ _ _ _ _ U)) ?_
              refine hK.out _ _ (hHeld.alloc hHeld.size _) (fun hHeld1 => ?_)
              clear hK K hHeld
              (try simp only [Act.put, putA])
              refine wpAnyT_done (by kernel_rfl) ?_
              simp only [List.drop_succ_cons, List.drop_zero]
              have HBl := hide (HBg.out.trans (hHeld1.mono hBg))
              have HKl := hide (HKg.out.trans (.later hHeld1))
              have HKyhl := hide (PrK.later (b := b) hHeld1)
              have HByhl := hide (hHeld1.mono hBg)
              have HC := hide (ln_any B b k8 _ 2 [32, 123] _ ([.s ([112, 114, 111, 99]), .s (y.name), .s ([112, 114, 105, 111]), .n (y.prio), .s ([112, 101, 114, 105, 111, 100]), .n (y.period), .s ([108, 105, 109, 105, 116]), .n (y.limit)] : List Arg) _ (hide (HPg.out.later hHeld1)) HD (hide (ok_s (ok_s (ok_s (ok_n m0 (ok_s (ok_n m1 (ok_s (ok_n m2 ok_nil))))))))) (by simp) (by omega) (by simp) (by simp only [List.length_append]; omega) (Nat.le_trans hBg hHeld1.size) hGB (hide (hE.out.keptB HBl.out hGB)))
              clear hHeld1 HD
              go_wp2_with fail
              refine HC.out.mono ?_
              rintro e wh ⟨rfl, h1, h2, h3⟩
              have HPh := hide h1
              have HBh := hide (HBl.out.trans h2)
              have HKh := hide (HKl.out.trans h3)
              have HKyh := hide (HKyhl.out.trans h3)
              have HByh := hide (HByhl.out.trans h2)
              clear HKyhl HByhl
              clear h1 h2 h3 HC HBl HKl
              replace HPh : Hid (PrAt B b k8 (L ++ partH x ++ semasT x ++ eventsT x ++ boardsT x ++ bufsT x ++ catT portT x.ports ++ catT procT (x.procs.take k) ++ procH y) wh) := HPh
              have HYw := hide ((HKyh.out.block wr.heap.size hyb HOy.out).trans HXyb.out)
              clear y0 y1 y2 y3 y4 hl1
              have y4 := cell_of_row _ _ 4 _ _ _ HYw.out
              go_wp2_with fail
              clear y4 HYw
              go_loopw [164] (fun v wq => ∃ n : Nat, n ≤ y.code.length ∧ v = .int .i64 n ∧ PrAt B b k8 (L ++ partH x ++ semasT x ++ eventsT x ++ boardsT x ++ bufsT x ++ catT portT x.ports ++ catT procT (x.procs.take k) ++ procH y ++ catT codeT (y.code.take n)) wq ∧ Below B W wq ∧ PrK b w0 wq ∧ Below B w1 wq) (fun v _ => y.code.length - (intOf v).toNat)
              case atStart => exact ⟨0, by omega, rfl, by rw [catT_zero, List.append_nil]; exact HPh.out, HBh.out, HKh.out, HByh.out⟩
              case round =>
                clear HPh HBh HKh
                obtain ⟨n, hn, rfl, hp, hbr, hkr, hjr⟩ := hrel
                have HPq := hide hp
                have HBq := hide hbr
                have HKq := hide hkr
                have HJq := hide hjr
                clear hp hbr hkr hjr
                by_cases hlt2 : n < y.code.length
                rotate_left
                · obtain rfl : n = y.code.length := by omega
                  rw [List.take_length] at HPq
                  clear hlt2
                  go_wp2_with fail
                  have HC := hide (ln_any B b k8 _ 2 [125] _ ([] : List Arg) wr HPq (hide (.nil none 0 1)) (hide ok_nil) (by simp) (by omega) (by simp) (by simp only [List.length_append, sayT, List.length_nil]; omega) (Nat.le_trans hBw HBq.out.size) hGB (hide (hE.out.keptB HBq.out hGB)))
                  refine HC.out.mono ?_
                  rintro e wz ⟨rfl, h1, h2, h3⟩
                  have HPz := hide h1
                  have HBz := hide (HBq.out.trans h2)
                  have HKz := hide (HKq.out.trans h3)
                  clear h1 h2 h3 HC
                  go_wp2_with fail
                  go_roundw
                  case rel => exact ⟨k + 1, by omega, by go_num, by rw [catT_step HXy.out]; simpa only [procT, List.append_assoc] using HPz.out, HBz.out, HKz.out⟩
                  case measure => simp [intOf]; omega
                have hlt := hlt2
                obtain ⟨c, hc⟩ : ∃ c, y.code[n]? = some c := ⟨_, List.getElem?_eq_getElem hlt⟩
                obtain ⟨g, off, rfl, hG, hg, hca⟩ := (HRy4.out.keep (HBy1.out.trans HJq.out)).at_ hc
                obtain ⟨uc0, c0, g0⟩ := hca 0 _ rfl
                obtain rfl := g0.leaf_eq
                obtain ⟨uc1, c1, g1⟩ := hca 1 _ rfl
                obtain rfl := g1.leaf_eq
                obtain ⟨uc2, c2, g2⟩ := hca 2 _ rfl
                obtain rfl := g2.leaf_eq
                obtain ⟨uc3, c3, g3⟩ := hca 3 _ rfl
                obtain rfl := g3.leaf_eq
                clear hca g0 g1 g2 g3
                (try simp only [strV] at c0 c1 c2 c3)
                rw [Nat.add_zero] at c0
                have k0 : (0 : Int) ≤ (n : Int) ∧ (n : Int) < ((y.code.length : Nat) : Int) := by omega
                have HXc := hide hc
                have hroomc := catT_room (f := codeT) hc
                clear hc
                have hci := List.all_eq_true.1 HCO.out c (List.mem_of_getElem? HXc.out)
                have hop := hzf.2 c (List.mem_of_getElem? HXc.out)
                have HXcb := hide (heap_alloc_new wr (.cells #[.int .u8 (c.op : Int), .int .i64 c.a, .int .i64 c.b, .int .i64 c.c] 70))
                have HBAc := hide ((Below.refl wr.heap.size wr).alloc (Nat.le_refl _) (.cells #[.int .u8 (c.op : Int), .int .i64 c.a, .int .i64 c.b, .int .i64 c.c] 70))
                have hcxl : wr.heap.size < (wr.alloc (.cells #[.int .u8 (c.op : Int), .int .i64 c.a, .int .i64 c.b, .int .i64 c.c] 70)).heap.size := by simp
                go_wp2_with fail
                clear c0 c1 c2 c3
                generalize wr.alloc (.cells #[.int .u8 (c.op : Int), .int .i64 c.a, .int .i64 c.b, .int .i64 c.c] 70) = w2 at *
                have HPi := hide (HPq.out.later HBAc.out)
                have HBi := hide (HBq.out.trans (HBAc.out.mono (Nat.le_trans hBw HBq.out.size)))
                have HKi := hide (HKq.out.trans (.later HBAc.out))
                have z0 := cell_of_row _ _ 0 _ _ _ HXcb.out
                have z1 := cell_of_row _ _ 1 _ _ _ HXcb.out
                have z2 := cell_of_row _ _ 2 _ _ _ HXcb.out
                have z3 := cell_of_row _ _ 3 _ _ _ HXcb.out
                have hT : codeT c = lnT 3 [] ([.s (insT c)] : List Arg) := rfl
                have hl1 := congrArg List.length hT
                rw [lnT_len] at hl1
                have hBi : B ≤ w2.heap.size := Nat.le_trans hBw HBi.out.size
                refine wp_region_tail (S := fun w' => Below w2.heap.size w2 w') 7 (by kernel_rfl) (by kernel_rfl) (Below.refl _ _).drew (fun hHeld => ?_)
                generalize w2.drew = U at *
                refine tk 0 168 rfl (by kernel_rfl) (fun _ _ _ h => h) rfl (fun _ _ => by go_simp; with_reducible rfl) hHeld ?_
                (try simp only [Act.put, putA, putB, putC])
                refine tk 1 169 rfl (by kernel_rfl) (fun _ _ _ h => h) rfl (fun _ _ => by go_simp; with_reducible rfl) hHeld ?_
                (try simp only [Act.put, putA, putB, putC])
                refine tk 2 170 rfl (by kernel_rfl) (fun _ _ _ h => h) rfl (fun _ _ => by go_simp; with_reducible rfl) hHeld ?_
                (try simp only [Act.put, putA, putB, putC])
                refine wpAnyT_take (i := 3) (oi := ⟨some 171, _, _, _, _, _⟩) (v := ?_) rfl (by kernel_rfl) (fun _ _ _ h => h) (Or.inl ⟨by rfl, ?_⟩) hHeld ?_
                rotate_left
                · intro v hS
                  have e0 := (hS.cell (p := ⟨wr.heap.size, 0, none⟩) hcxl).trans z0
                  have e1 := (hS.cell (p := ⟨wr.heap.size, 1, none⟩) hcxl).trans z1
                  have e2 := (hS.cell (p := ⟨wr.heap.size, 2, none⟩) hcxl).trans z2
                  have e3 := (hS.cell (p := ⟨wr.heap.size, 3, none⟩) hcxl).trans z3
                  go_simp
                  with_reducible rfl
                (try simp only [Act.put, putA, putB, putC])
                refine wpAnyT_ready (rs := [4]) (by kernel_rfl) (by simp) (by rfl) (AllT.cons rfl (fun K hK => ?_) AllT.nil)
                go_simp
                have HI := hide (code_any c hop U hci (hide (hE.out.keptB (HBi.out.trans (hHeld.mono hBi)) hGB)) (hide (hP.out.keptB (HBi.out.trans (hHeld.mono hBi)) hGP)))
                refine HI.out.mono ?_
                rintro e Ua ⟨rfl, hb⟩
                have hSUa := hHeld.trans (hb.mono hHeld.size)
                clear hb HI hHeld
                go_wp2_with fail
                refine hK.out _ _ hSUa (fun hHeld => ?_)
                clear hK K hSUa
                (try simp only [Act.put, putA, putB, putC])
                refine tk 5 173 rfl (by kernel_rfl) (fun _ _ _ h => h) rfl (fun _ _ => by go_simp; with_reducible rfl) hHeld ?_
                (try simp only [Act.put, putA, putB, putC])
                refine wpAnyT_ready (rs := [6]) (by kernel_rfl) (by simp) (by rfl) (AllT.cons rfl (fun K hK => ?_) AllT.nil)
                refine if_goal (by rfl) ?_
                have HD := hide (any_new Ua ([.s (insT c)] : List Arg) (b := b) (HPi.out.later hHeld).lt)
                refine wp_value (exec_bs (ps := #[(0, .iface 9 (.string ⟨(insT c).toArray⟩))]) rfl (by kernel_rfl) (bs1 _ _ Ua)) ?_
                refine hK.out _ _ (hHeld.alloc hHeld.size _) (fun hHeld1 => ?_)
                clear hK K hHeld
                (try simp only [Act.put, putA])
                refine wpAnyT_done (by kernel_rfl) ?_
                simp only [List.drop_succ_cons, List.drop_zero]
                have HBl := hide (HBi.out.trans (hHeld1.mono hBi))
                have HKl := hide (HKi.out.trans (.later hHeld1))
                have HKczl := hide (PrK.later (b := b) hHeld1)
                have HBczl := hide (hHeld1.mono hBi)
                have HC := hide (ln_any B b k8 _ 3 [] _ ([.s (insT c)] : List Arg) _ (hide (HPi.out.later hHeld1)) HD (hide (ok_s ok_nil)) (by simp) (by omega) (by simp) (by simp only [List.length_append]; omega) (Nat.le_trans hBi hHeld1.size) hGB (hide (hE.out.keptB HBl.out hGB)))
                clear hHeld1 HD
                go_wp2_with fail
                refine HC.out.mono ?_
                rintro e wz ⟨rfl, h1, h2, h3⟩
                have HPz := hide h1
                have HBz := hide (HBl.out.trans h2)
                have HKz := hide (HKl.out.trans h3)
                have HKcz := hide (HKczl.out.trans h3)
                have HBcz := hide (HBczl.out.trans h2)
                clear HKczl HBczl
                clear h1 h2 h3 HC HBl HKl
                go_wp2_with fail
                go_roundw
                case rel => exact ⟨n + 1, by omega, by go_num, by rw [catT_step HXc.out, hT, ← List.append_assoc]; exact HPz.out, HBz.out, HKz.out, HJq.out.trans ((HBAc.out.mono (Nat.le_trans hBw HBq.out.size)).trans HBcz.out)⟩
                case measure => simp [intOf]; omega
set_option maxRecDepth 100000 in
set_option maxHeartbeats 4000000 in
theorem p_modules (B b : Nat) (k8 : C8) (L : List UInt8) (l : List ModD) (W : World) (h : Hid (PrAt B b k8 L W)) (hv : Hid (DAt W (fun g => g < B) k8.c0 (.row 4 (l.map ModD.cells)))) (hF : Hid (l.all modF = true)) (hlen : L.length + (catT modT l).length ≤ 1000000) (hnl : l.length ≤ 140737488355328) (hBw : B ≤ W.heap.size) (hGB : 6 ≤ B) (hE : Hid (Env W)) (hGP : 3 ≤ B) (hP : Hid (EnvP W)) (hfit : ∀ y ∈ l, ModFit y) :
    Calls Tryz.prog 36 #[.pointer (some ⟨b, 0, none⟩)] W fun e w' => e = .returned (.tuple #[]) ∧ PrAt B b k8 (L ++ catT modT l) w' ∧ Below B W w' ∧ PrK b W w' := by
  obtain ⟨A, c, ek, hA⟩ := hv.out.sliceG
  have HA := hide hA
  rw [List.length_map] at ek
  clear hA hv
  have cb : W.cell? ⟨b, 2, none⟩ = some (.slice A l.length c) := (h.out.cell 0 (by decide)).trans (congrArg some ek)
  clear ek
  have HL := hide hlen
  clear hlen
  go_enter Tryz.func36, Tryz.ntmps36
  go_wp2_with fail
  clear cb
  go_loopw [12] (fun v wr => ∃ k : Nat, k ≤ l.length ∧ v = .int .i64 k ∧ PrAt B b k8 (L ++ catT modT (l.take k)) wr ∧ Below B W wr ∧ PrK b W wr) (fun v _ => l.length - (intOf v).toNat)
  case atStart => exact ⟨0, by omega, rfl, by rw [catT_zero, List.append_nil]; exact h.out, Below.refl _ _, PrK.refl _ _⟩
  case round =>
    obtain ⟨k, hk, rfl, hp, hbr, hkr⟩ := hrel
    have HP := hide hp
    have HBR := hide hbr
    have HKR := hide hkr
    clear hp hbr hkr h
    by_cases hlt : k < l.length
    rotate_left
    · obtain rfl : k = l.length := by omega
      rw [List.take_length] at HP
      clear hlt
      go_wp2_with fail
      go_end0
      exact ⟨rfl, HP.out, HBR.out, HKR.out⟩
    obtain ⟨x, hx⟩ : ∃ x, l[k]? = some x := ⟨_, List.getElem?_eq_getElem hlt⟩
    obtain ⟨g, off, rfl, hG, hg, hca⟩ := (HA.out.keep HBR.out).at_ hx
    obtain ⟨u0, c0, g0⟩ := hca 0 _ rfl
    obtain rfl := g0.leaf_eq
    obtain ⟨u1, c1, g1⟩ := hca 1 _ rfl
    obtain rfl := g1.leaf_eq
    obtain ⟨u2, c2, g2⟩ := hca 2 _ rfl
    obtain rfl := g2.leaf_eq
    obtain ⟨u3, c3, g3⟩ := hca 3 _ rfl
    have HG3 := hide g3
    obtain ⟨A3, q3, rfl, hr3⟩ := g3.sliceG
    have HR3 := hide hr3
    clear hr3
    rw [List.length_map] at HG3 c3
    clear hca g0 g1 g2 g3
    simp only [strV] at c0 c1 c2 c3
    rw [Nat.add_zero] at c0
    have k0 : (0 : Int) ≤ (k : Int) ∧ (k : Int) < ((l.length : Nat) : Int) := by omega
    have HFx := hide (List.all_eq_true.1 hF.out x (List.mem_of_getElem? hx))
    have HX := hide hx
    have hroom := catT_room (f := modT) hx
    have hL := HL.out
    clear hx
    have HXb := hide (heap_alloc_new wr (.cells #[.string ⟨x.name.toArray⟩, .int .i64 x.mem, .int .i64 x.frame, .slice A3 x.parts.length q3] 39))
    have HBA := hide ((Below.refl wr.heap.size wr).alloc (Nat.le_refl _) (.cells #[.string ⟨x.name.toArray⟩, .int .i64 x.mem, .int .i64 x.frame, .slice A3 x.parts.length q3] 39))
    have hxl : wr.heap.size < (wr.alloc (.cells #[.string ⟨x.name.toArray⟩, .int .i64 x.mem, .int .i64 x.frame, .slice A3 x.parts.length q3] 39)).heap.size := by simp
    have hft := hfit x (List.mem_of_getElem? HX.out)
    go_wp2_with fail
    clear c0 c1 c2 c3
    generalize wr.alloc (.cells #[.string ⟨x.name.toArray⟩, .int .i64 x.mem, .int .i64 x.frame, .slice A3 x.parts.length q3] 39) = w0 at *
    have HP0 := hide (HP.out.later HBA.out)
    have HKR0 := hide (HKR.out.trans (.later HBA.out))
    have hBr : B ≤ wr.heap.size := Nat.le_trans hBw HBR.out.size
    have HBR0 := hide (HBR.out.trans (HBA.out.mono hBr))
    have hB0 : B ≤ w0.heap.size := Nat.le_trans hBw HBR0.out.size
    have x0 := cell_of_row _ _ 0 _ _ _ HXb.out
    have x1 := cell_of_row _ _ 1 _ _ _ HXb.out
    have x2 := cell_of_row _ _ 2 _ _ _ HXb.out
    have x3 := cell_of_row _ _ 3 _ _ _ HXb.out
    have hq := HFx.out
    simp only [modF, Bool.and_eq_true, List.all_cons, List.all_nil, Bool.and_true] at hq
    obtain ⟨-, ⟨d0, d1⟩, hpa⟩ := hq
    have HPA := hide hpa
    clear hpa
    have hpl := hft.1
    have hml : (modT x).length = (modH x).length + (catT partT x.parts).length + 2 := by
      have : (lnT 0 [125] []).length = 2 := by rw [lnT_len]; rfl
      simp only [modT, List.length_append]
      omega
    have hl1 : (modH x).length = 0 + (sayT ([.s ([109, 111, 100, 117, 108, 101]), .s (x.name), .s ([109, 101, 109]), .n (x.mem), .s ([102, 114, 97, 109, 101]), .n (x.frame)] : List Arg)).length + 3 := by rw [modH, lnT_len]; rfl
    have HB0 := HBR0
    have HK0 := HKR0
    have hxb : wr.heap.size ≠ b := by have := HP.out.lt; omega
    have HOx : Hid (Oth w0 wr.heap.size) := hide ⟨_, _, _, HXb.out, by decide⟩
    have hB0 : B ≤ w0.heap.size := Nat.le_trans hBw HB0.out.size
    refine wp_region_tail (S := fun w' => Below w0.heap.size w0 w') 16 (by kernel_rfl) (by kernel_rfl) (Below.refl _ _).drew (fun hHeld => ?_)
    generalize w0.drew = U at *
    refine tk 0 16 rfl (by kernel_rfl) (fun _ _ _ h => h) rfl (fun _ _ => by go_simp; with_reducible rfl) hHeld ?_
    (try simp only [Act.put, putA, putB, putC])
    refine tk 1 17 rfl (by kernel_rfl) (fun _ _ _ h => h) rfl (fun _ _ => by go_simp; with_reducible rfl) hHeld ?_
    (try simp only [Act.put, putA, putB, putC])
    refine tk 2 18 rfl (by kernel_rfl) (fun _ _ _ h => h) rfl (fun _ _ => by go_simp; with_reducible rfl) hHeld ?_
    (try simp only [Act.put, putA, putB, putC])
    refine tk 3 19 rfl (by kernel_rfl) (fun _ _ _ h => h) rfl (fun _ _ => by go_simp; with_reducible rfl) hHeld ?_
    (try simp only [Act.put, putA, putB, putC])
    refine tk 4 20 rfl (by kernel_rfl) (fun _ _ _ h => h) rfl (fun _ _ => by go_simp; with_reducible rfl) hHeld ?_
    (try simp only [Act.put, putA, putB, putC])
    refine wpAnyT_take (i := 5) (oi := ⟨some 21, _, _, _, _, _⟩) (v := ?_) rfl (by kernel_rfl) (fun _ _ _ h => h) (Or.inl ⟨by rfl, ?_⟩) hHeld ?_
    rotate_left
    · intro v hS
      have e0 := (hS.cell (p := ⟨wr.heap.size, 0, none⟩) hxl).trans x0
      go_simp
      with_reducible rfl
    (try simp only [Act.put, putA, putB, putC])
    refine tk 6 22 rfl (by kernel_rfl) (fun _ _ _ h => h) rfl (fun _ _ => by go_simp; with_reducible rfl) hHeld ?_
    (try simp only [Act.put, putA, putB, putC])
    refine tk 7 23 rfl (by kernel_rfl) (fun _ _ _ h => h) rfl (fun _ _ => by go_simp; with_reducible rfl) hHeld ?_
    (try simp only [Act.put, putA, putB, putC])
    refine tk 8 24 rfl (by kernel_rfl) (fun _ _ _ h => h) rfl (fun _ _ => by go_simp; with_reducible rfl) hHeld ?_
    (try simp only [Act.put, putA, putB, putC])
    refine wpAnyT_take (i := 9) (oi := ⟨some 25, _, _, _, _, _⟩) (v := ?_) rfl (by kernel_rfl) (fun _ _ _ h => h) (Or.inl ⟨by rfl, ?_⟩) hHeld ?_
    rotate_left
    · intro v hS
      have e0 := (hS.cell (p := ⟨wr.heap.size, 1, none⟩) hxl).trans x1
      go_simp
      with_reducible rfl
    (try simp only [Act.put, putA, putB, putC])
    refine tk 10 26 rfl (by kernel_rfl) (fun _ _ _ h => h) rfl (fun _ _ => by go_simp; with_reducible rfl) hHeld ?_
    (try simp only [Act.put, putA, putB, putC])
    refine tk 11 27 rfl (by kernel_rfl) (fun _ _ _ h => h) rfl (fun _ _ => by go_simp; with_reducible rfl) hHeld ?_
    (try simp only [Act.put, putA, putB, putC])
    refine tk 12 28 rfl (by kernel_rfl) (fun _ _ _ h => h) rfl (fun _ _ => by go_simp; with_reducible rfl) hHeld ?_
    (try simp only [Act.put, putA, putB, putC])
    refine wpAnyT_take (i := 13) (oi := ⟨some 29, _, _, _, _, _⟩) (v := ?_) rfl (by kernel_rfl) (fun _ _ _ h => h) (Or.inl ⟨by rfl, ?_⟩) hHeld ?_
    rotate_left
    · intro v hS
      have e0 := (hS.cell (p := ⟨wr.heap.size, 2, none⟩) hxl).trans x2
      go_simp
      with_reducible rfl
    (try simp only [Act.put, putA, putB, putC])
    refine tk 14 30 rfl (by kernel_rfl) (fun _ _ _ h => h) rfl (fun _ _ => by go_simp; with_reducible rfl) hHeld ?_
    (try simp only [Act.put, putA, putB, putC])
    refine wpAnyT_ready (rs := [15]) (by kernel_rfl) (by simp) (by rfl) (AllT.cons rfl (fun K hK => ?_) AllT.nil)
    refine if_goal (by rfl) ?_
    have HD := hide (any_new U ([.s ([109, 111, 100, 117, 108, 101]), .s (x.name), .s ([109, 101, 109]), .n (x.mem), .s ([102, 114, 97, 109, 101]), .n (x.frame)] : List Arg) (b := b) (HP0.out.later hHeld).lt)
    refine wp_value (exec_bs (ps := #[(0, .iface 9 (.string ⟨([109, 111, 100, 117, 108, 101]).toArray⟩)), (1, .iface 9 (.string ⟨(x.name).toArray⟩)), (2, .iface 9 (.string ⟨([109, 101, 109]).toArray⟩)), (3, .iface 3 (.int .i64 x.mem)), (4, .iface 9 (.string ⟨([102, 114, 97, 109, 101]).toArray⟩)), (5, .iface 3 (.int .i64 x.frame))]) rfl (by kernel_rfl) (bs6 _ _ _ _ _ _ _ _ _ _ _ _ U)) ?_
    refine hK.out _ _ (hHeld.alloc hHeld.size _) (fun hHeld1 => ?_)
    clear hK K hHeld
    (try simp only [Act.put, putA])
    refine wpAnyT_done (by kernel_rfl) ?_
    simp only [List.drop_succ_cons, List.drop_zero]
    have HBl := hide (HB0.out.trans (hHeld1.mono hB0))
    have HKl := hide (HK0.out.trans (.later hHeld1))
    have HKxhl := hide (PrK.later (b := b) hHeld1)
    have HBxhl := hide (hHeld1.mono hB0)
    have HC := hide (ln_any B b k8 _ 0 [32, 123] _ ([.s ([109, 111, 100, 117, 108, 101]), .s (x.name), .s ([109, 101, 109]), .n (x.mem), .s ([102, 114, 97, 109, 101]), .n (x.frame)] : List Arg) _ (hide (HP0.out.later hHeld1)) HD (hide (ok_s (ok_s (ok_s (ok_n d0 (ok_s (ok_n d1 ok_nil))))))) (by simp) (by omega) (by simp) (by simp only [List.length_append]; omega) (Nat.le_trans hB0 hHeld1.size) hGB (hide (hE.out.keptB HBl.out hGB)))
    clear hHeld1 HD
    go_wp2_with fail
    refine HC.out.mono ?_
    rintro e wh ⟨rfl, h1, h2, h3⟩
    have HPh := hide h1
    have HBh := hide (HBl.out.trans h2)
    have HKh := hide (HKl.out.trans h3)
    have HKxh := hide (HKxhl.out.trans h3)
    have HBxh := hide (HBxhl.out.trans h2)
    clear HKxhl HBxhl
    clear h1 h2 h3 HC HBl HKl
    replace HPh : Hid (PrAt B b k8 (L ++ catT modT (l.take k) ++ modH x) wh) := HPh
    have HYw := hide ((HKxh.out.block wr.heap.size hxb HOx.out).trans HXb.out)
    clear x0 x1 x2 x3 hl1
    have x3 := cell_of_row _ _ 3 _ _ _ HYw.out
    go_wp2_with fail
    clear x3 HYw
    go_loopw [36] (fun v wq => ∃ n : Nat, n ≤ x.parts.length ∧ v = .int .i64 n ∧ PrAt B b k8 (L ++ catT modT (l.take k) ++ modH x ++ catT partT (x.parts.take n)) wq ∧ Below B W wq ∧ PrK b W wq ∧ Below B w0 wq) (fun v _ => x.parts.length - (intOf v).toNat)
    case atStart => exact ⟨0, by omega, rfl, by rw [catT_zero, List.append_nil]; exact HPh.out, HBh.out, HKh.out, HBxh.out⟩
    case round =>
      clear HPh HBh HKh
      obtain ⟨n, hn, rfl, hp, hbr, hkr, hjr⟩ := hrel
      have HPq := hide hp
      have HBq := hide hbr
      have HKq := hide hkr
      have HJq := hide hjr
      clear hp hbr hkr hjr
      by_cases hlt2 : n < x.parts.length
      rotate_left
      · obtain rfl : n = x.parts.length := by omega
        rw [List.take_length] at HPq
        clear hlt2
        go_wp2_with fail
        have HC := hide (ln_any B b k8 _ 0 [125] _ ([] : List Arg) wr HPq (hide (.nil none 0 1)) (hide ok_nil) (by simp) (by omega) (by simp) (by simp only [List.length_append, sayT, List.length_nil]; omega) (Nat.le_trans hBw HBq.out.size) hGB (hide (hE.out.keptB HBq.out hGB)))
        refine HC.out.mono ?_
        rintro e wz ⟨rfl, h1, h2, h3⟩
        have HPz := hide h1
        have HBz := hide (HBq.out.trans h2)
        have HKz := hide (HKq.out.trans h3)
        clear h1 h2 h3 HC
        go_wp2_with fail
        go_roundw
        case rel => exact ⟨k + 1, by omega, by go_num, by rw [catT_step HX.out]; simpa only [modT, List.append_assoc] using HPz.out, HBz.out, HKz.out⟩
        case measure => simp [intOf]; omega
      have hlt := hlt2
      obtain ⟨y, hy⟩ : ∃ y, x.parts[n]? = some y := ⟨_, List.getElem?_eq_getElem hlt⟩
      obtain ⟨g, off, rfl, hG, hg, hca⟩ := (HR3.out.keep ((HBA.out.mono hBr).trans HJq.out)).at_ hy
      obtain ⟨uy0, c0, g0⟩ := hca 0 _ rfl
      obtain ⟨uy1, c1, g1⟩ := hca 1 _ rfl
      obtain ⟨uy2, c2, g2⟩ := hca 2 _ rfl
      obtain ⟨uy3, c3, g3⟩ := hca 3 _ rfl
      obtain ⟨uy4, c4, g4⟩ := hca 4 _ rfl
      obtain ⟨uy5, c5, g5⟩ := hca 5 _ rfl
      obtain ⟨uy6, c6, g6⟩ := hca 6 _ rfl
      obtain ⟨uy7, c7, g7⟩ := hca 7 _ rfl
      obtain ⟨uy8, c8, g8⟩ := hca 8 _ rfl
      obtain ⟨uy9, c9, g9⟩ := hca 9 _ rfl
      obtain rfl := g0.leaf_eq
      obtain rfl := g1.leaf_eq
      obtain rfl := g2.leaf_eq
      obtain rfl := g3.leaf_eq
      obtain ⟨Ay4, qy4, rfl, -⟩ := g4.sliceG
      rw [show (intRows y.semas).length = y.semas.length from by simp [intRows]] at g4 c4
      obtain rfl := g5.leaf_eq
      obtain rfl := g6.leaf_eq
      obtain ⟨Ay7, qy7, rfl, -⟩ := g7.sliceG
      rw [show (intRows y.bufs).length = y.bufs.length from by simp [intRows]] at g7 c7
      obtain ⟨Ay8, qy8, rfl, -⟩ := g8.sliceG
      rw [List.length_map] at g8 c8
      obtain ⟨Ay9, qy9, rfl, -⟩ := g9.sliceG
      rw [List.length_map] at g9 c9
      simp only [strV] at c0 c1 c2 c3 c4 c5 c6 c7 c8 c9
      clear hca
      rw [Nat.add_zero] at c0
      have k0 : (0 : Int) ≤ (n : Int) ∧ (n : Int) < ((x.parts.length : Nat) : Int) := by omega
      have HXy := hide hy
      have hroomy := catT_room (f := partT) hy
      clear hy
      have HDy := hide (show DCells wr (fun g => g < B) [.string ⟨y.name.toArray⟩, .int .i64 y.period, .int .i64 y.length, .int .i64 y.mem, .slice Ay4 y.semas.length qy4, .int .i64 y.events, .int .i64 y.boards, .slice Ay7 y.bufs.length qy7, .slice Ay8 y.ports.length qy8, .slice Ay9 y.procs.length qy9] y.cells from (DCells.cons g0 (DCells.cons g1 (DCells.cons g2 (DCells.cons g3 (DCells.cons g4 (DCells.cons g5 (DCells.cons g6 (DCells.cons g7 (DCells.cons g8 (DCells.cons g9 DCells.nil)))))))))))
      clear g0 g1 g2 g3 g4 g5 g6 g7 g8 g9
      have HXyb := hide (heap_alloc_new wr (.cells #[.string ⟨y.name.toArray⟩, .int .i64 y.period, .int .i64 y.length, .int .i64 y.mem, .slice Ay4 y.semas.length qy4, .int .i64 y.events, .int .i64 y.boards, .slice Ay7 y.bufs.length qy7, .slice Ay8 y.ports.length qy8, .slice Ay9 y.procs.length qy9] 36))
      have HBAy := hide ((Below.refl wr.heap.size wr).alloc (Nat.le_refl _) (.cells #[.string ⟨y.name.toArray⟩, .int .i64 y.period, .int .i64 y.length, .int .i64 y.mem, .slice Ay4 y.semas.length qy4, .int .i64 y.events, .int .i64 y.boards, .slice Ay7 y.bufs.length qy7, .slice Ay8 y.ports.length qy8, .slice Ay9 y.procs.length qy9] 36))
      go_wp2_with fail
      clear c0 c1 c2 c3 c4 c5 c6 c7 c8 c9
      generalize wr.alloc (.cells #[.string ⟨y.name.toArray⟩, .int .i64 y.period, .int .i64 y.length, .int .i64 y.mem, .slice Ay4 y.semas.length qy4, .int .i64 y.events, .int .i64 y.boards, .slice Ay7 y.bufs.length qy7, .slice Ay8 y.ports.length qy8, .slice Ay9 y.procs.length qy9] 36) = w2 at *
      have HPi := hide (HPq.out.later HBAy.out)
      have HBi := hide (HBq.out.trans (HBAy.out.mono (Nat.le_trans hBw HBq.out.size)))
      have HKi := hide (HKq.out.trans (.later HBAy.out))
      have HC := hide (p_part B b k8 _ y [.string ⟨y.name.toArray⟩, .int .i64 y.period, .int .i64 y.length, .int .i64 y.mem, .slice Ay4 y.semas.length qy4, .int .i64 y.events, .int .i64 y.boards, .slice Ay7 y.bufs.length qy7, .slice Ay8 y.ports.length qy8, .slice Ay9 y.procs.length qy9] w2 HPi (hide (HDy.out.keep HBAy.out.size (fun g hg _ => HBAy.out.block g (Nat.lt_of_lt_of_le hg (Nat.le_trans hBw HBq.out.size))))) (List.all_eq_true.1 HPA.out y (List.mem_of_getElem? HXy.out)) (by simp only [List.length_append]; omega) (Nat.le_trans hBw HBi.out.size) hGB (hide (hE.out.keptB HBi.out hGB)) hGP (hide (hP.out.keptB HBi.out hGP)) (hft.2 y (List.mem_of_getElem? HXy.out)))
      refine HC.out.mono ?_
      rintro e wz ⟨rfl, h1, h2, h3⟩
      have HPz := hide h1
      have HBz := hide (HBi.out.trans h2)
      have HKz := hide (HKi.out.trans h3)
      have HJz := hide (HJq.out.trans ((HBAy.out.mono (Nat.le_trans hBw HBq.out.size)).trans h2))
      clear h1 h2 h3 HC
      go_wp2_with fail
      go_roundw
      case rel => exact ⟨n + 1, by omega, by go_num, by rw [catT_step HXy.out, ← List.append_assoc]; exact HPz.out, HBz.out, HKz.out, HJz.out⟩
      case measure => simp [intOf]; omega
end Go.Proofs.YtndpnpohdoggjaaGreatDoor
