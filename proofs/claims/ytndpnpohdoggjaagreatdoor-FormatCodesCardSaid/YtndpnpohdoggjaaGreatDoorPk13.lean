/-
  Merged texts: format: operands, ins.
-/
import Derived.Test.YtndpnpohdoggjaaGreatDoorPk12
import Derived.Test.YtndpnpohdoggjaaGreatDoorPk1
import Derived.Deep.DeepCutAuto
namespace Go.Proofs.YtndpnpohdoggjaaGreatDoor
open Go.RowKit
attribute [local go_sem] Later.cell
theorem ops_three (n : Nat) (h : n ≤ 255) : (wordN insOps n).length ≤ 3 := by
  have h2 : ((List.range 256).all fun k => decide ((wordN insOps k).length ≤ 3)) = true := by decide +kernel
  have := List.all_eq_true.1 h2 n (by simp; omega)
  simpa using this
set_option maxRecDepth 100000 in
set_option maxHeartbeats 4000000 in
theorem operands_row (x : InsD) (hop : x.op ≤ 255) (W : World) (hP : Hid (EnvP W)) :
    Calls Tryz.prog 83 #[.agg #[.int .u8 (x.op : Int), .int .i64 x.a, .int .i64 x.b, .int .i64 x.c]] W fun e w' => ∃ b, e = .returned (.slice (some ⟨b, 0, none⟩) (wordN insOps x.op).length 3) ∧ w'.heap[b]? = some (.cells #[.int .i64 x.a, .int .i64 x.b, .int .i64 x.c] 3 (0, 0)) ∧ Below W.heap.size W w' := by
  have HX := hide (heap_alloc_new W (.cells #[.int .u8 (x.op : Int), .int .i64 x.a, .int .i64 x.b, .int .i64 x.c] 70))
  have HB := hide ((Below.refl W.heap.size W).alloc (Nat.le_refl _) (.cells #[.int .u8 (x.op : Int), .int .i64 x.a, .int .i64 x.b, .int .i64 x.c] 70))
  have HOP := hide (fun V (h : Hid (EnvP V)) => operands_any x.op V h hop)
  have h3 := ops_three x.op hop
  obtain ⟨O, hO⟩ : ∃ O : ByteArray, (⟨(wordN insOps x.op).toArray⟩ : ByteArray) = O := ⟨_, rfl⟩
  have hOs : (wordN insOps x.op).length = O.size := by rw [← hO]; simp [ByteArray.size]
  rw [hO] at HOP
  rw [hOs] at h3 ⊢
  clear hO hOs
  have o1 : (O.size : Int) ≤ 3 := by omega
  go_enter Tryz.func83, Tryz.ntmps83
  go_wp2_with fail
  generalize W.alloc (.cells #[.int .u8 (x.op : Int), .int .i64 x.a, .int .i64 x.b, .int .i64 x.c] 70) = w0 at *
  refine wp_region_tail (S := fun w' => w'.heap[W.heap.size]? = w0.heap[W.heap.size]?) 11 (by kernel_rfl) (by kernel_rfl) rfl (fun hHeld => ?_)
  have HBd := hide HB.out.drew
  generalize w0.drew = U at *
  refine tk 0 3 rfl (by kernel_rfl) (fun _ _ _ h => h) rfl (fun _ _ => by go_simp; with_reducible rfl) hHeld ?_
  (try simp only [Act.put, putA, putB, putC])
  refine wpAnyT_take (i := 1) (oi := ⟨some 4, _, _, _, _, _⟩) (v := ?_) rfl (by kernel_rfl) (fun _ _ _ h => h) (Or.inl ⟨by rfl, ?_⟩) hHeld ?_
  rotate_left
  · intro v hS
    have e1 := cell_of_row _ _ 1 _ _ _ (hS.trans HX.out)
    go_simp
    with_reducible rfl
  (try simp only [Act.put, putA, putB, putC])
  refine tk 2 5 rfl (by kernel_rfl) (fun _ _ _ h => h) rfl (fun _ _ => by go_simp; with_reducible rfl) hHeld ?_
  (try simp only [Act.put, putA, putB, putC])
  refine wpAnyT_take (i := 3) (oi := ⟨some 6, _, _, _, _, _⟩) (v := ?_) rfl (by kernel_rfl) (fun _ _ _ h => h) (Or.inl ⟨by rfl, ?_⟩) hHeld ?_
  rotate_left
  · intro v hS
    have e1 := cell_of_row _ _ 2 _ _ _ (hS.trans HX.out)
    go_simp
    with_reducible rfl
  (try simp only [Act.put, putA, putB, putC])
  refine tk 4 7 rfl (by kernel_rfl) (fun _ _ _ h => h) rfl (fun _ _ => by go_simp; with_reducible rfl) hHeld ?_
  (try simp only [Act.put, putA, putB, putC])
  refine wpAnyT_take (i := 5) (oi := ⟨some 8, _, _, _, _, _⟩) (v := ?_) rfl (by kernel_rfl) (fun _ _ _ h => h) (Or.inl ⟨by rfl, ?_⟩) hHeld ?_
  rotate_left
  · intro v hS
    have e1 := cell_of_row _ _ 3 _ _ _ (hS.trans HX.out)
    go_simp
    with_reducible rfl
  (try simp only [Act.put, putA, putB, putC])
  refine tk 7 10 rfl (by kernel_rfl) (fun _ _ _ h => h) rfl (fun _ _ => by go_simp; with_reducible rfl) hHeld ?_
  (try simp only [Act.put, putA, putB, putC])
  refine wpAnyT_take (i := 8) (oi := ⟨some 11, _, _, _, _, _⟩) (v := ?_) rfl (by kernel_rfl) (fun _ _ _ h => h) (Or.inl ⟨by rfl, ?_⟩) hHeld ?_
  rotate_left
  · intro v hS
    have e1 := cell_of_row _ _ 0 _ _ _ (hS.trans HX.out)
    go_simp
    with_reducible rfl
  (try simp only [Act.put, putA, putB, putC])
  (try simp only [Act.put, putA, putB, putC])
  refine wpAnyT_ready (rs := [6, 9]) (by kernel_rfl) (by simp) (by rfl) (AllT.cons rfl (fun K hK => ?_) (AllT.cons rfl (fun K hK => ?_) AllT.nil))
  · go_simp
    have hlU := (Array.getElem?_eq_some_iff.1 (hHeld.trans HX.out)).1
    have HI := hide (heap_alloc_new U (.cells #[.int .i64 x.a, .int .i64 x.b, .int .i64 x.c] 3))
    have HB1 := hide (HBd.out.alloc HBd.out.size (.cells #[.int .i64 x.a, .int .i64 x.b, .int .i64 x.c] 3))
    refine hK.out _ _ ((Below.heap_alloc U _ W.heap.size hlU).trans hHeld) (fun hHeld1 => ?_)
    clear hK K hHeld
    generalize U.heap.size = ib at *
    generalize U.alloc (.cells #[.int .i64 x.a, .int .i64 x.b, .int .i64 x.c] 3) = V at *
    (try simp only [Act.put, putA, putB, putC])
    refine wpAnyT_ready (rs := [9]) (by kernel_rfl) (by simp) (by rfl) (AllT.cons rfl (fun K hK => ?_) AllT.nil)
    go_simp
    refine (HOP.out V (hide (hP.out.below HB1.out))).mono ?_
    rintro e w2 ⟨rfl, hb⟩
    have HI2 := hide ((hb.block ib (Array.getElem?_eq_some_iff.1 HI.out).1).trans HI.out)
    have HB2 := hide (HB1.out.trans (hb.mono HB1.out.size))
    have hS2 := (hb.block W.heap.size (Array.getElem?_eq_some_iff.1 (hHeld1.trans HX.out)).1).trans hHeld1
    clear hb hHeld1
    go_wp2_with fail
    refine hK.out _ _ hS2 (fun hHeld => ?_)
    clear hK K
    refine tk 10 13 rfl (by kernel_rfl) (fun _ _ _ h => h) rfl (fun _ _ => by go_simp; with_reducible rfl) hHeld ?_
    (try simp only [Act.put, putA, putB, putC])
    refine wpAnyT_done (by kernel_rfl) ?_
    simp only [List.drop_succ_cons, List.drop_zero]
    clear hHeld hS2
    go_wp2_with fail
    go_ret
    exact ⟨_, rfl, HI2.out, HB2.out⟩
  · go_simp
    refine (HOP.out U (hide (hP.out.below HBd.out))).mono ?_
    rintro e w2 ⟨rfl, hb⟩
    have HB1 := hide (HBd.out.trans (hb.mono HBd.out.size))
    have hS2 := (hb.block W.heap.size (Array.getElem?_eq_some_iff.1 (hHeld.trans HX.out)).1).trans hHeld
    clear hb hHeld
    go_wp2_with fail
    refine hK.out _ _ hS2 (fun hHeld => ?_)
    clear hK K
    refine tk 10 13 rfl (by kernel_rfl) (fun _ _ _ h => h) rfl (fun _ _ => by go_simp; with_reducible rfl) hHeld ?_
    (try simp only [Act.put, putA, putB, putC])
    refine wpAnyT_ready (rs := [6]) (by kernel_rfl) (by simp) (by rfl) (AllT.cons rfl (fun K hK => ?_) AllT.nil)
    go_simp
    have HI2 := hide (heap_alloc_new w2 (.cells #[.int .i64 x.a, .int .i64 x.b, .int .i64 x.c] 3))
    have HB2 := hide (HB1.out.alloc HB1.out.size (.cells #[.int .i64 x.a, .int .i64 x.b, .int .i64 x.c] 3))
    refine hK.out _ _ ((Below.heap_alloc w2 _ W.heap.size (Array.getElem?_eq_some_iff.1 (hHeld.trans HX.out)).1).trans hHeld) (fun hHeld1 => ?_)
    clear hK K hHeld hS2 hHeld1
    generalize w2.heap.size = ib at *
    generalize w2.alloc (.cells #[.int .i64 x.a, .int .i64 x.b, .int .i64 x.c] 3) = V at *
    (try simp only [Act.put, putA, putB, putC])
    refine wpAnyT_done (by kernel_rfl) ?_
    simp only [List.drop_succ_cons, List.drop_zero]
    go_wp2_with fail
    go_ret
    exact ⟨_, rfl, HI2.out, HB2.out⟩
theorem dat_part {w : World} {ib : Nat} {cs : Array Value} {T : TypeId} {fr : Nat × Nat} (h : w.heap[ib]? = some (.cells cs T fr)) (l : List Int) (hl : cs.toList = l.map fun n => Value.int .i64 n) (k n c : Nat) (hn : (l.drop k).length = n) (hcap : n ≤ c := by omega) : DAt w (fun _ => True) (.slice (some ⟨ib, k, none⟩) n c) (.row 1 (intRows (l.drop k))) := by
  have hval : ∀ (i j : Nat) (e : List Dat) (d : Dat), (intRows (l.drop k))[i]? = some e → e[j]? = some d → j = 0 ∧ ∃ x, l[k + i]? = some x ∧ d = lI x := by
    intro i j e d he hd
    unfold intRows at he
    rw [List.getElem?_map] at he
    obtain ⟨x, hx, rfl⟩ := Option.map_eq_some_iff.1 he
    rw [List.getElem?_drop] at hx
    cases j with
    | zero => simp at hd; exact ⟨rfl, x, hx, hd.symm⟩
    | succ j => simp at hd
  refine .row ib k c 1 n (intRows (l.drop k)) (fun i _ => .int .i64 (l.getD (k + i) 0)) (by simpa [intRows] using hn) trivial (Array.getElem?_eq_some_iff.1 h).1 (fun i j e d he hd => ?_) (fun i j e d he hd => ?_) hcap
  · obtain ⟨rfl, x, hx, _⟩ := hval i j e d he hd
    rw [Nat.mul_one, Nat.add_zero, cell_of_row w ib (k + i) _ _ _ h]
    have : cs[k + i]? = cs.toList[k + i]? := by simp
    rw [this, hl, List.getElem?_map, hx]
    simp [List.getD, hx]
  · obtain ⟨rfl, x, hx, rfl⟩ := hval i j e d he hd
    simp only [List.getD, hx, Option.getD_some]
    exact .leaf _
theorem dat_take {w : World} {ib : Nat} {cs : Array Value} {T : TypeId} {fr : Nat × Nat} (h : w.heap[ib]? = some (.cells cs T fr)) (l : List Int) (hl : cs.toList = l.map fun n => Value.int .i64 n) (n c : Nat) (hn : (l.take n).length = n) (hcap : n ≤ c := by omega) : DAt w (fun _ => True) (.slice (some ⟨ib, 0, none⟩) n c) (.row 1 (intRows (l.take n))) := by
  have hval : ∀ (i j : Nat) (e : List Dat) (d : Dat), (intRows (l.take n))[i]? = some e → e[j]? = some d → j = 0 ∧ ∃ x, l[i]? = some x ∧ d = lI x := by
    intro i j e d he hd
    unfold intRows at he
    rw [List.getElem?_map] at he
    obtain ⟨x, hx, rfl⟩ := Option.map_eq_some_iff.1 he
    rw [List.getElem?_take] at hx
    split at hx
    · cases j with
      | zero => simp at hd; exact ⟨rfl, x, hx, hd.symm⟩
      | succ j => simp at hd
    · cases hx
  refine .row ib 0 c 1 n (intRows (l.take n)) (fun i _ => .int .i64 (l.getD i 0)) (by simpa [intRows] using hn) trivial (Array.getElem?_eq_some_iff.1 h).1 (fun i j e d he hd => ?_) (fun i j e d he hd => ?_) hcap
  · obtain ⟨rfl, x, hx, _⟩ := hval i j e d he hd
    rw [Nat.mul_one, Nat.add_zero, Nat.zero_add, cell_of_row w ib i _ _ _ h]
    have : cs[i]? = cs.toList[i]? := by simp
    rw [this, hl, List.getElem?_map, hx]
    simp [List.getD, hx]
  · obtain ⟨rfl, x, hx, rfl⟩ := hval i j e d he hd
    simp only [List.getD, hx, Option.getD_some]
    exact .leaf _
theorem ba_ne {b : ByteArray} (h : b ≠ ⟨#[]⟩) : b.toList.isEmpty = false := by
  rw [ByteArray.toList_eq]
  cases e : b.data.toList with
  | nil => exact absurd (ByteArray.ext (by rw [← Array.toList_inj]; exact e)) h
  | cons x l => rfl
def insF (x : InsD) : Bool := (wordN insWords x.op != []) && (([x.a, x.b, x.c].take (wordN insOps x.op).length).all numF && ([x.a, x.b, x.c].drop (wordN insOps x.op).length).all zeroF)
set_option maxRecDepth 100000 in
set_option maxHeartbeats 4000000 in
theorem f_ins (x : InsD) (hop : x.op ≤ 255) (us : List Value) (W : World) (hP : Hid (EnvP W)) (hd : Hid (DCells W (fun _ => True) us x.cells)) :
    Calls Tryz.prog 16 #[.agg us.toArray] W fun e w' => e = .returned (.bool (insF x)) ∧ Below W.heap.size W w' := by
  have hd := hd.out
  obtain ⟨u0, us, rfl, h0, hd⟩ := dcells_cons hd
  obtain ⟨u1, us, rfl, h1, hd⟩ := dcells_cons hd
  obtain ⟨u2, us, rfl, h2, hd⟩ := dcells_cons hd
  obtain ⟨u3, us, rfl, h3, hd⟩ := dcells_cons hd
  obtain rfl := dcells_nil hd
  obtain rfl := h0.leaf_eq
  obtain rfl := h1.leaf_eq
  obtain rfl := h2.leaf_eq
  obtain rfl := h3.leaf_eq
  clear hd h0 h1 h2 h3
  have HX := hide (heap_alloc_new W (.cells #[.int .u8 (x.op : Int), .int .i64 x.a, .int .i64 x.b, .int .i64 x.c] 70))
  have HB := hide ((Below.refl W.heap.size W).alloc (Nat.le_refl _) (.cells #[.int .u8 (x.op : Int), .int .i64 x.a, .int .i64 x.b, .int .i64 x.c] 70))
  have HOP := hide (fun V (h : Hid (EnvP V)) => operands_any x.op V h hop)
  have h3 := ops_three x.op hop
  have HF := hide (show insF x = ((wordN insWords x.op != []) && (([x.a, x.b, x.c].take (wordN insOps x.op).length).all numF && ([x.a, x.b, x.c].drop (wordN insOps x.op).length).all zeroF)) from rfl)
  obtain ⟨O, hO⟩ : ∃ O : ByteArray, (⟨(wordN insOps x.op).toArray⟩ : ByteArray) = O := ⟨_, rfl⟩
  have hOs : (wordN insOps x.op).length = O.size := by rw [← hO]; simp [ByteArray.size]
  rw [hO] at HOP
  rw [hOs] at h3 HF
  have HOs := hide hOs
  clear hO hOs
  have o1 : (O.size : Int) ≤ 3 := by omega
  go_enter Tryz.func16, Tryz.ntmps16
  go_wp2_with fail
  generalize W.alloc (.cells #[.int .u8 (x.op : Int), .int .i64 x.a, .int .i64 x.b, .int .i64 x.c] 70) = w0 at *
  go_upto_region 1 with fail
  go_cut [3] (fun v3 wx => Hid (DAt wx (fun _ => True) v3 (.row 1 (intRows ([x.a, x.b, x.c].drop O.size)))) ∧ Hid (wx.heap[W.heap.size]? = some (.cells #[.int .u8 (x.op : Int), .int .i64 x.a, .int .i64 x.b, .int .i64 x.c] 70 (0, 0))) ∧ Hid (Below W.heap.size W wx))
  case first =>
    rcases (by omega : O.size = 0 ∨ O.size = 1 ∨ O.size = 2 ∨ O.size = 3) with hn | hn | hn | hn
    · have HDD := hide (fun (w : World) (ib : Nat) (h : w.heap[ib]? = some (.cells #[.int .i64 x.a, .int .i64 x.b, .int .i64 x.c] 3 (0, 0))) => hide (show DAt w (fun _ => True) (.slice (some ⟨ib, 0, none⟩) 3 3) (.row 1 (intRows ([x.a, x.b, x.c].drop O.size))) from by rw [hn]; exact dat_part h [x.a, x.b, x.c] rfl 0 3 3 rfl))
      refine wp_region_tail (S := fun w' => w'.heap[W.heap.size]? = w0.heap[W.heap.size]?) 11 (by kernel_rfl) (by kernel_rfl) rfl (fun hHeld => ?_)
      have HBd := hide HB.out.drew
      generalize w0.drew = U at *
      refine tk 0 4 rfl (by kernel_rfl) (fun _ _ _ h => h) rfl (fun _ _ => by go_simp; with_reducible rfl) hHeld ?_
      (try simp only [Act.put, putA, putB, putC])
      refine wpAnyT_take (i := 1) (oi := ⟨some 5, _, _, _, _, _⟩) (v := ?_) rfl (by kernel_rfl) (fun _ _ _ h => h) (Or.inl ⟨by rfl, ?_⟩) hHeld ?_
      rotate_left
      · intro v hS
        have e1 := cell_of_row _ _ 1 _ _ _ (hS.trans HX.out)
        go_simp
        with_reducible rfl
      (try simp only [Act.put, putA, putB, putC])
      refine tk 2 6 rfl (by kernel_rfl) (fun _ _ _ h => h) rfl (fun _ _ => by go_simp; with_reducible rfl) hHeld ?_
      (try simp only [Act.put, putA, putB, putC])
      refine wpAnyT_take (i := 3) (oi := ⟨some 7, _, _, _, _, _⟩) (v := ?_) rfl (by kernel_rfl) (fun _ _ _ h => h) (Or.inl ⟨by rfl, ?_⟩) hHeld ?_
      rotate_left
      · intro v hS
        have e1 := cell_of_row _ _ 2 _ _ _ (hS.trans HX.out)
        go_simp
        with_reducible rfl
      (try simp only [Act.put, putA, putB, putC])
      refine tk 4 8 rfl (by kernel_rfl) (fun _ _ _ h => h) rfl (fun _ _ => by go_simp; with_reducible rfl) hHeld ?_
      (try simp only [Act.put, putA, putB, putC])
      refine wpAnyT_take (i := 5) (oi := ⟨some 9, _, _, _, _, _⟩) (v := ?_) rfl (by kernel_rfl) (fun _ _ _ h => h) (Or.inl ⟨by rfl, ?_⟩) hHeld ?_
      rotate_left
      · intro v hS
        have e1 := cell_of_row _ _ 3 _ _ _ (hS.trans HX.out)
        go_simp
        with_reducible rfl
      (try simp only [Act.put, putA, putB, putC])
      refine tk 7 11 rfl (by kernel_rfl) (fun _ _ _ h => h) rfl (fun _ _ => by go_simp; with_reducible rfl) hHeld ?_
      (try simp only [Act.put, putA, putB, putC])
      refine wpAnyT_take (i := 8) (oi := ⟨some 12, _, _, _, _, _⟩) (v := ?_) rfl (by kernel_rfl) (fun _ _ _ h => h) (Or.inl ⟨by rfl, ?_⟩) hHeld ?_
      rotate_left
      · intro v hS
        have e1 := cell_of_row _ _ 0 _ _ _ (hS.trans HX.out)
        go_simp
        with_reducible rfl
      (try simp only [Act.put, putA, putB, putC])
      (try simp only [Act.put, putA, putB, putC])
      refine wpAnyT_ready (rs := [6, 9]) (by kernel_rfl) (by simp) (by rfl) (AllT.cons rfl (fun K hK => ?_) (AllT.cons rfl (fun K hK => ?_) AllT.nil))
      · go_simp
        have hlU := (Array.getElem?_eq_some_iff.1 (hHeld.trans HX.out)).1
        have HI := hide (heap_alloc_new U (.cells #[.int .i64 x.a, .int .i64 x.b, .int .i64 x.c] 3))
        have HB1 := hide (HBd.out.alloc HBd.out.size (.cells #[.int .i64 x.a, .int .i64 x.b, .int .i64 x.c] 3))
        refine hK.out _ _ ((Below.heap_alloc U _ W.heap.size hlU).trans hHeld) (fun hHeld1 => ?_)
        clear hK K hHeld
        generalize U.heap.size = ib at *
        generalize U.alloc (.cells #[.int .i64 x.a, .int .i64 x.b, .int .i64 x.c] 3) = V at *
        (try simp only [Act.put, putA, putB, putC])
        refine wpAnyT_ready (rs := [9]) (by kernel_rfl) (by simp) (by rfl) (AllT.cons rfl (fun K hK => ?_) AllT.nil)
        go_simp
        refine (HOP.out V (hide (hP.out.below HB1.out))).mono ?_
        rintro e w2 ⟨rfl, hb⟩
        have HI2 := hide ((hb.block ib (Array.getElem?_eq_some_iff.1 HI.out).1).trans HI.out)
        have HB2 := hide (HB1.out.trans (hb.mono HB1.out.size))
        have hS2 := (hb.block W.heap.size (Array.getElem?_eq_some_iff.1 (hHeld1.trans HX.out)).1).trans hHeld1
        clear hb hHeld1
        go_wp2_with fail
        refine hK.out _ _ hS2 (fun hHeld => ?_)
        clear hK K
        refine tk 10 14 rfl (by kernel_rfl) (fun _ _ _ h => h) rfl (fun _ _ => by go_simp; with_reducible rfl) hHeld ?_
        (try simp only [Act.put, putA, putB, putC])
        refine wpAnyT_done (by kernel_rfl) ?_
        simp only [List.drop_succ_cons, List.drop_zero]
        have HX2 := hide (hHeld.trans HX.out)
        clear hHeld hS2
        go_wp2_with fail
        go_meet
        exact ⟨HDD.out _ _ HI2.out, HX2, HB2⟩
      · go_simp
        refine (HOP.out U (hide (hP.out.below HBd.out))).mono ?_
        rintro e w2 ⟨rfl, hb⟩
        have HB1 := hide (HBd.out.trans (hb.mono HBd.out.size))
        have hS2 := (hb.block W.heap.size (Array.getElem?_eq_some_iff.1 (hHeld.trans HX.out)).1).trans hHeld
        clear hb hHeld
        go_wp2_with fail
        refine hK.out _ _ hS2 (fun hHeld => ?_)
        clear hK K
        refine tk 10 14 rfl (by kernel_rfl) (fun _ _ _ h => h) rfl (fun _ _ => by go_simp; with_reducible rfl) hHeld ?_
        (try simp only [Act.put, putA, putB, putC])
        refine wpAnyT_ready (rs := [6]) (by kernel_rfl) (by simp) (by rfl) (AllT.cons rfl (fun K hK => ?_) AllT.nil)
        go_simp
        have HI2 := hide (heap_alloc_new w2 (.cells #[.int .i64 x.a, .int .i64 x.b, .int .i64 x.c] 3))
        have HB2 := hide (HB1.out.alloc HB1.out.size (.cells #[.int .i64 x.a, .int .i64 x.b, .int .i64 x.c] 3))
        refine hK.out _ _ ((Below.heap_alloc w2 _ W.heap.size (Array.getElem?_eq_some_iff.1 (hHeld.trans HX.out)).1).trans hHeld) (fun hHeld1 => ?_)
        have HX2 := hide (hHeld1.trans HX.out)
        clear hK K hHeld hS2 hHeld1
        generalize w2.heap.size = ib at *
        generalize w2.alloc (.cells #[.int .i64 x.a, .int .i64 x.b, .int .i64 x.c] 3) = V at *
        (try simp only [Act.put, putA, putB, putC])
        refine wpAnyT_done (by kernel_rfl) ?_
        simp only [List.drop_succ_cons, List.drop_zero]
        go_wp2_with fail
        go_meet
        exact ⟨HDD.out _ _ HI2.out, HX2, HB2⟩
    · have HDD := hide (fun (w : World) (ib : Nat) (h : w.heap[ib]? = some (.cells #[.int .i64 x.a, .int .i64 x.b, .int .i64 x.c] 3 (0, 0))) => hide (show DAt w (fun _ => True) (.slice (some ⟨ib, 1, none⟩) 2 2) (.row 1 (intRows ([x.a, x.b, x.c].drop O.size))) from by rw [hn]; exact dat_part h [x.a, x.b, x.c] rfl 1 2 2 rfl))
      refine wp_region_tail (S := fun w' => w'.heap[W.heap.size]? = w0.heap[W.heap.size]?) 11 (by kernel_rfl) (by kernel_rfl) rfl (fun hHeld => ?_)
      have HBd := hide HB.out.drew
      generalize w0.drew = U at *
      refine tk 0 4 rfl (by kernel_rfl) (fun _ _ _ h => h) rfl (fun _ _ => by go_simp; with_reducible rfl) hHeld ?_
      (try simp only [Act.put, putA, putB, putC])
      refine wpAnyT_take (i := 1) (oi := ⟨some 5, _, _, _, _, _⟩) (v := ?_) rfl (by kernel_rfl) (fun _ _ _ h => h) (Or.inl ⟨by rfl, ?_⟩) hHeld ?_
      rotate_left
      · intro v hS
        have e1 := cell_of_row _ _ 1 _ _ _ (hS.trans HX.out)
        go_simp
        with_reducible rfl
      (try simp only [Act.put, putA, putB, putC])
      refine tk 2 6 rfl (by kernel_rfl) (fun _ _ _ h => h) rfl (fun _ _ => by go_simp; with_reducible rfl) hHeld ?_
      (try simp only [Act.put, putA, putB, putC])
      refine wpAnyT_take (i := 3) (oi := ⟨some 7, _, _, _, _, _⟩) (v := ?_) rfl (by kernel_rfl) (fun _ _ _ h => h) (Or.inl ⟨by rfl, ?_⟩) hHeld ?_
      rotate_left
      · intro v hS
        have e1 := cell_of_row _ _ 2 _ _ _ (hS.trans HX.out)
        go_simp
        with_reducible rfl
      (try simp only [Act.put, putA, putB, putC])
      refine tk 4 8 rfl (by kernel_rfl) (fun _ _ _ h => h) rfl (fun _ _ => by go_simp; with_reducible rfl) hHeld ?_
      (try simp only [Act.put, putA, putB, putC])
      refine wpAnyT_take (i := 5) (oi := ⟨some 9, _, _, _, _, _⟩) (v := ?_) rfl (by kernel_rfl) (fun _ _ _ h => h) (Or.inl ⟨by rfl, ?_⟩) hHeld ?_
      rotate_left
      · intro v hS
        have e1 := cell_of_row _ _ 3 _ _ _ (hS.trans HX.out)
        go_simp
        with_reducible rfl
      (try simp only [Act.put, putA, putB, putC])
      refine tk 7 11 rfl (by kernel_rfl) (fun _ _ _ h => h) rfl (fun _ _ => by go_simp; with_reducible rfl) hHeld ?_
      (try simp only [Act.put, putA, putB, putC])
      refine wpAnyT_take (i := 8) (oi := ⟨some 12, _, _, _, _, _⟩) (v := ?_) rfl (by kernel_rfl) (fun _ _ _ h => h) (Or.inl ⟨by rfl, ?_⟩) hHeld ?_
      rotate_left
      · intro v hS
        have e1 := cell_of_row _ _ 0 _ _ _ (hS.trans HX.out)
        go_simp
        with_reducible rfl
      (try simp only [Act.put, putA, putB, putC])
      (try simp only [Act.put, putA, putB, putC])
      refine wpAnyT_ready (rs := [6, 9]) (by kernel_rfl) (by simp) (by rfl) (AllT.cons rfl (fun K hK => ?_) (AllT.cons rfl (fun K hK => ?_) AllT.nil))
      · go_simp
        have hlU := (Array.getElem?_eq_some_iff.1 (hHeld.trans HX.out)).1
        have HI := hide (heap_alloc_new U (.cells #[.int .i64 x.a, .int .i64 x.b, .int .i64 x.c] 3))
        have HB1 := hide (HBd.out.alloc HBd.out.size (.cells #[.int .i64 x.a, .int .i64 x.b, .int .i64 x.c] 3))
        refine hK.out _ _ ((Below.heap_alloc U _ W.heap.size hlU).trans hHeld) (fun hHeld1 => ?_)
        clear hK K hHeld
        generalize U.heap.size = ib at *
        generalize U.alloc (.cells #[.int .i64 x.a, .int .i64 x.b, .int .i64 x.c] 3) = V at *
        (try simp only [Act.put, putA, putB, putC])
        refine wpAnyT_ready (rs := [9]) (by kernel_rfl) (by simp) (by rfl) (AllT.cons rfl (fun K hK => ?_) AllT.nil)
        go_simp
        refine (HOP.out V (hide (hP.out.below HB1.out))).mono ?_
        rintro e w2 ⟨rfl, hb⟩
        have HI2 := hide ((hb.block ib (Array.getElem?_eq_some_iff.1 HI.out).1).trans HI.out)
        have HB2 := hide (HB1.out.trans (hb.mono HB1.out.size))
        have hS2 := (hb.block W.heap.size (Array.getElem?_eq_some_iff.1 (hHeld1.trans HX.out)).1).trans hHeld1
        clear hb hHeld1
        go_wp2_with fail
        refine hK.out _ _ hS2 (fun hHeld => ?_)
        clear hK K
        refine tk 10 14 rfl (by kernel_rfl) (fun _ _ _ h => h) rfl (fun _ _ => by go_simp; with_reducible rfl) hHeld ?_
        (try simp only [Act.put, putA, putB, putC])
        refine wpAnyT_done (by kernel_rfl) ?_
        simp only [List.drop_succ_cons, List.drop_zero]
        have HX2 := hide (hHeld.trans HX.out)
        clear hHeld hS2
        go_wp2_with fail
        go_meet
        exact ⟨HDD.out _ _ HI2.out, HX2, HB2⟩
      · go_simp
        refine (HOP.out U (hide (hP.out.below HBd.out))).mono ?_
        rintro e w2 ⟨rfl, hb⟩
        have HB1 := hide (HBd.out.trans (hb.mono HBd.out.size))
        have hS2 := (hb.block W.heap.size (Array.getElem?_eq_some_iff.1 (hHeld.trans HX.out)).1).trans hHeld
        clear hb hHeld
        go_wp2_with fail
        refine hK.out _ _ hS2 (fun hHeld => ?_)
        clear hK K
        refine tk 10 14 rfl (by kernel_rfl) (fun _ _ _ h => h) rfl (fun _ _ => by go_simp; with_reducible rfl) hHeld ?_
        (try simp only [Act.put, putA, putB, putC])
        refine wpAnyT_ready (rs := [6]) (by kernel_rfl) (by simp) (by rfl) (AllT.cons rfl (fun K hK => ?_) AllT.nil)
        go_simp
        have HI2 := hide (heap_alloc_new w2 (.cells #[.int .i64 x.a, .int .i64 x.b, .int .i64 x.c] 3))
        have HB2 := hide (HB1.out.alloc HB1.out.size (.cells #[.int .i64 x.a, .int .i64 x.b, .int .i64 x.c] 3))
        refine hK.out _ _ ((Below.heap_alloc w2 _ W.heap.size (Array.getElem?_eq_some_iff.1 (hHeld.trans HX.out)).1).trans hHeld) (fun hHeld1 => ?_)
        have HX2 := hide (hHeld1.trans HX.out)
        clear hK K hHeld hS2 hHeld1
        generalize w2.heap.size = ib at *
        generalize w2.alloc (.cells #[.int .i64 x.a, .int .i64 x.b, .int .i64 x.c] 3) = V at *
        (try simp only [Act.put, putA, putB, putC])
        refine wpAnyT_done (by kernel_rfl) ?_
        simp only [List.drop_succ_cons, List.drop_zero]
        go_wp2_with fail
        go_meet
        exact ⟨HDD.out _ _ HI2.out, HX2, HB2⟩
    · have HDD := hide (fun (w : World) (ib : Nat) (h : w.heap[ib]? = some (.cells #[.int .i64 x.a, .int .i64 x.b, .int .i64 x.c] 3 (0, 0))) => hide (show DAt w (fun _ => True) (.slice (some ⟨ib, 2, none⟩) 1 1) (.row 1 (intRows ([x.a, x.b, x.c].drop O.size))) from by rw [hn]; exact dat_part h [x.a, x.b, x.c] rfl 2 1 1 rfl))
      refine wp_region_tail (S := fun w' => w'.heap[W.heap.size]? = w0.heap[W.heap.size]?) 11 (by kernel_rfl) (by kernel_rfl) rfl (fun hHeld => ?_)
      have HBd := hide HB.out.drew
      generalize w0.drew = U at *
      refine tk 0 4 rfl (by kernel_rfl) (fun _ _ _ h => h) rfl (fun _ _ => by go_simp; with_reducible rfl) hHeld ?_
      (try simp only [Act.put, putA, putB, putC])
      refine wpAnyT_take (i := 1) (oi := ⟨some 5, _, _, _, _, _⟩) (v := ?_) rfl (by kernel_rfl) (fun _ _ _ h => h) (Or.inl ⟨by rfl, ?_⟩) hHeld ?_
      rotate_left
      · intro v hS
        have e1 := cell_of_row _ _ 1 _ _ _ (hS.trans HX.out)
        go_simp
        with_reducible rfl
      (try simp only [Act.put, putA, putB, putC])
      refine tk 2 6 rfl (by kernel_rfl) (fun _ _ _ h => h) rfl (fun _ _ => by go_simp; with_reducible rfl) hHeld ?_
      (try simp only [Act.put, putA, putB, putC])
      refine wpAnyT_take (i := 3) (oi := ⟨some 7, _, _, _, _, _⟩) (v := ?_) rfl (by kernel_rfl) (fun _ _ _ h => h) (Or.inl ⟨by rfl, ?_⟩) hHeld ?_
      rotate_left
      · intro v hS
        have e1 := cell_of_row _ _ 2 _ _ _ (hS.trans HX.out)
        go_simp
        with_reducible rfl
      (try simp only [Act.put, putA, putB, putC])
      refine tk 4 8 rfl (by kernel_rfl) (fun _ _ _ h => h) rfl (fun _ _ => by go_simp; with_reducible rfl) hHeld ?_
      (try simp only [Act.put, putA, putB, putC])
      refine wpAnyT_take (i := 5) (oi := ⟨some 9, _, _, _, _, _⟩) (v := ?_) rfl (by kernel_rfl) (fun _ _ _ h => h) (Or.inl ⟨by rfl, ?_⟩) hHeld ?_
      rotate_left
      · intro v hS
        have e1 := cell_of_row _ _ 3 _ _ _ (hS.trans HX.out)
        go_simp
        with_reducible rfl
      (try simp only [Act.put, putA, putB, putC])
      refine tk 7 11 rfl (by kernel_rfl) (fun _ _ _ h => h) rfl (fun _ _ => by go_simp; with_reducible rfl) hHeld ?_
      (try simp only [Act.put, putA, putB, putC])
      refine wpAnyT_take (i := 8) (oi := ⟨some 12, _, _, _, _, _⟩) (v := ?_) rfl (by kernel_rfl) (fun _ _ _ h => h) (Or.inl ⟨by rfl, ?_⟩) hHeld ?_
      rotate_left
      · intro v hS
        have e1 := cell_of_row _ _ 0 _ _ _ (hS.trans HX.out)
        go_simp
        with_reducible rfl
      (try simp only [Act.put, putA, putB, putC])
      (try simp only [Act.put, putA, putB, putC])
      refine wpAnyT_ready (rs := [6, 9]) (by kernel_rfl) (by simp) (by rfl) (AllT.cons rfl (fun K hK => ?_) (AllT.cons rfl (fun K hK => ?_) AllT.nil))
      · go_simp
        have hlU := (Array.getElem?_eq_some_iff.1 (hHeld.trans HX.out)).1
        have HI := hide (heap_alloc_new U (.cells #[.int .i64 x.a, .int .i64 x.b, .int .i64 x.c] 3))
        have HB1 := hide (HBd.out.alloc HBd.out.size (.cells #[.int .i64 x.a, .int .i64 x.b, .int .i64 x.c] 3))
        refine hK.out _ _ ((Below.heap_alloc U _ W.heap.size hlU).trans hHeld) (fun hHeld1 => ?_)
        clear hK K hHeld
        generalize U.heap.size = ib at *
        generalize U.alloc (.cells #[.int .i64 x.a, .int .i64 x.b, .int .i64 x.c] 3) = V at *
        (try simp only [Act.put, putA, putB, putC])
        refine wpAnyT_ready (rs := [9]) (by kernel_rfl) (by simp) (by rfl) (AllT.cons rfl (fun K hK => ?_) AllT.nil)
        go_simp
        refine (HOP.out V (hide (hP.out.below HB1.out))).mono ?_
        rintro e w2 ⟨rfl, hb⟩
        have HI2 := hide ((hb.block ib (Array.getElem?_eq_some_iff.1 HI.out).1).trans HI.out)
        have HB2 := hide (HB1.out.trans (hb.mono HB1.out.size))
        have hS2 := (hb.block W.heap.size (Array.getElem?_eq_some_iff.1 (hHeld1.trans HX.out)).1).trans hHeld1
        clear hb hHeld1
        go_wp2_with fail
        refine hK.out _ _ hS2 (fun hHeld => ?_)
        clear hK K
        refine tk 10 14 rfl (by kernel_rfl) (fun _ _ _ h => h) rfl (fun _ _ => by go_simp; with_reducible rfl) hHeld ?_
        (try simp only [Act.put, putA, putB, putC])
        refine wpAnyT_done (by kernel_rfl) ?_
        simp only [List.drop_succ_cons, List.drop_zero]
        have HX2 := hide (hHeld.trans HX.out)
        clear hHeld hS2
        go_wp2_with fail
        go_meet
        exact ⟨HDD.out _ _ HI2.out, HX2, HB2⟩
      · go_simp
        refine (HOP.out U (hide (hP.out.below HBd.out))).mono ?_
        rintro e w2 ⟨rfl, hb⟩
        have HB1 := hide (HBd.out.trans (hb.mono HBd.out.size))
        have hS2 := (hb.block W.heap.size (Array.getElem?_eq_some_iff.1 (hHeld.trans HX.out)).1).trans hHeld
        clear hb hHeld
        go_wp2_with fail
        refine hK.out _ _ hS2 (fun hHeld => ?_)
        clear hK K
        refine tk 10 14 rfl (by kernel_rfl) (fun _ _ _ h => h) rfl (fun _ _ => by go_simp; with_reducible rfl) hHeld ?_
        (try simp only [Act.put, putA, putB, putC])
        refine wpAnyT_ready (rs := [6]) (by kernel_rfl) (by simp) (by rfl) (AllT.cons rfl (fun K hK => ?_) AllT.nil)
        go_simp
        have HI2 := hide (heap_alloc_new w2 (.cells #[.int .i64 x.a, .int .i64 x.b, .int .i64 x.c] 3))
        have HB2 := hide (HB1.out.alloc HB1.out.size (.cells #[.int .i64 x.a, .int .i64 x.b, .int .i64 x.c] 3))
        refine hK.out _ _ ((Below.heap_alloc w2 _ W.heap.size (Array.getElem?_eq_some_iff.1 (hHeld.trans HX.out)).1).trans hHeld) (fun hHeld1 => ?_)
        have HX2 := hide (hHeld1.trans HX.out)
        clear hK K hHeld hS2 hHeld1
        generalize w2.heap.size = ib at *
        generalize w2.alloc (.cells #[.int .i64 x.a, .int .i64 x.b, .int .i64 x.c] 3) = V at *
        (try simp only [Act.put, putA, putB, putC])
        refine wpAnyT_done (by kernel_rfl) ?_
        simp only [List.drop_succ_cons, List.drop_zero]
        go_wp2_with fail
        go_meet
        exact ⟨HDD.out _ _ HI2.out, HX2, HB2⟩
    · have HDD := hide (fun (w : World) (ib : Nat) (_ : w.heap[ib]? = some (.cells #[.int .i64 x.a, .int .i64 x.b, .int .i64 x.c] 3 (0, 0))) => hide (show DAt w (fun _ => True) (.slice (some ⟨ib, 0, none⟩) 0 0) (.row 1 (intRows ([x.a, x.b, x.c].drop O.size))) from by rw [hn]; exact .nil _ _ _))
      refine wp_region_tail (S := fun w' => w'.heap[W.heap.size]? = w0.heap[W.heap.size]?) 11 (by kernel_rfl) (by kernel_rfl) rfl (fun hHeld => ?_)
      have HBd := hide HB.out.drew
      generalize w0.drew = U at *
      refine tk 0 4 rfl (by kernel_rfl) (fun _ _ _ h => h) rfl (fun _ _ => by go_simp; with_reducible rfl) hHeld ?_
      (try simp only [Act.put, putA, putB, putC])
      refine wpAnyT_take (i := 1) (oi := ⟨some 5, _, _, _, _, _⟩) (v := ?_) rfl (by kernel_rfl) (fun _ _ _ h => h) (Or.inl ⟨by rfl, ?_⟩) hHeld ?_
      rotate_left
      · intro v hS
        have e1 := cell_of_row _ _ 1 _ _ _ (hS.trans HX.out)
        go_simp
        with_reducible rfl
      (try simp only [Act.put, putA, putB, putC])
      refine tk 2 6 rfl (by kernel_rfl) (fun _ _ _ h => h) rfl (fun _ _ => by go_simp; with_reducible rfl) hHeld ?_
      (try simp only [Act.put, putA, putB, putC])
      refine wpAnyT_take (i := 3) (oi := ⟨some 7, _, _, _, _, _⟩) (v := ?_) rfl (by kernel_rfl) (fun _ _ _ h => h) (Or.inl ⟨by rfl, ?_⟩) hHeld ?_
      rotate_left
      · intro v hS
        have e1 := cell_of_row _ _ 2 _ _ _ (hS.trans HX.out)
        go_simp
        with_reducible rfl
      (try simp only [Act.put, putA, putB, putC])
      refine tk 4 8 rfl (by kernel_rfl) (fun _ _ _ h => h) rfl (fun _ _ => by go_simp; with_reducible rfl) hHeld ?_
      (try simp only [Act.put, putA, putB, putC])
      refine wpAnyT_take (i := 5) (oi := ⟨some 9, _, _, _, _, _⟩) (v := ?_) rfl (by kernel_rfl) (fun _ _ _ h => h) (Or.inl ⟨by rfl, ?_⟩) hHeld ?_
      rotate_left
      · intro v hS
        have e1 := cell_of_row _ _ 3 _ _ _ (hS.trans HX.out)
        go_simp
        with_reducible rfl
      (try simp only [Act.put, putA, putB, putC])
      refine tk 7 11 rfl (by kernel_rfl) (fun _ _ _ h => h) rfl (fun _ _ => by go_simp; with_reducible rfl) hHeld ?_
      (try simp only [Act.put, putA, putB, putC])
      refine wpAnyT_take (i := 8) (oi := ⟨some 12, _, _, _, _, _⟩) (v := ?_) rfl (by kernel_rfl) (fun _ _ _ h => h) (Or.inl ⟨by rfl, ?_⟩) hHeld ?_
      rotate_left
      · intro v hS
        have e1 := cell_of_row _ _ 0 _ _ _ (hS.trans HX.out)
        go_simp
        with_reducible rfl
      (try simp only [Act.put, putA, putB, putC])
      (try simp only [Act.put, putA, putB, putC])
      refine wpAnyT_ready (rs := [6, 9]) (by kernel_rfl) (by simp) (by rfl) (AllT.cons rfl (fun K hK => ?_) (AllT.cons rfl (fun K hK => ?_) AllT.nil))
      · go_simp
        have hlU := (Array.getElem?_eq_some_iff.1 (hHeld.trans HX.out)).1
        have HI := hide (heap_alloc_new U (.cells #[.int .i64 x.a, .int .i64 x.b, .int .i64 x.c] 3))
        have HB1 := hide (HBd.out.alloc HBd.out.size (.cells #[.int .i64 x.a, .int .i64 x.b, .int .i64 x.c] 3))
        refine hK.out _ _ ((Below.heap_alloc U _ W.heap.size hlU).trans hHeld) (fun hHeld1 => ?_)
        clear hK K hHeld
        generalize U.heap.size = ib at *
        generalize U.alloc (.cells #[.int .i64 x.a, .int .i64 x.b, .int .i64 x.c] 3) = V at *
        (try simp only [Act.put, putA, putB, putC])
        refine wpAnyT_ready (rs := [9]) (by kernel_rfl) (by simp) (by rfl) (AllT.cons rfl (fun K hK => ?_) AllT.nil)
        go_simp
        refine (HOP.out V (hide (hP.out.below HB1.out))).mono ?_
        rintro e w2 ⟨rfl, hb⟩
        have HI2 := hide ((hb.block ib (Array.getElem?_eq_some_iff.1 HI.out).1).trans HI.out)
        have HB2 := hide (HB1.out.trans (hb.mono HB1.out.size))
        have hS2 := (hb.block W.heap.size (Array.getElem?_eq_some_iff.1 (hHeld1.trans HX.out)).1).trans hHeld1
        clear hb hHeld1
        go_wp2_with fail
        refine hK.out _ _ hS2 (fun hHeld => ?_)
        clear hK K
        refine tk 10 14 rfl (by kernel_rfl) (fun _ _ _ h => h) rfl (fun _ _ => by go_simp; with_reducible rfl) hHeld ?_
        (try simp only [Act.put, putA, putB, putC])
        refine wpAnyT_done (by kernel_rfl) ?_
        simp only [List.drop_succ_cons, List.drop_zero]
        have HX2 := hide (hHeld.trans HX.out)
        clear hHeld hS2
        go_wp2_with fail
        go_meet
        exact ⟨HDD.out _ _ HI2.out, HX2, HB2⟩
      · go_simp
        refine (HOP.out U (hide (hP.out.below HBd.out))).mono ?_
        rintro e w2 ⟨rfl, hb⟩
        have HB1 := hide (HBd.out.trans (hb.mono HBd.out.size))
        have hS2 := (hb.block W.heap.size (Array.getElem?_eq_some_iff.1 (hHeld.trans HX.out)).1).trans hHeld
        clear hb hHeld
        go_wp2_with fail
        refine hK.out _ _ hS2 (fun hHeld => ?_)
        clear hK K
        refine tk 10 14 rfl (by kernel_rfl) (fun _ _ _ h => h) rfl (fun _ _ => by go_simp; with_reducible rfl) hHeld ?_
        (try simp only [Act.put, putA, putB, putC])
        refine wpAnyT_ready (rs := [6]) (by kernel_rfl) (by simp) (by rfl) (AllT.cons rfl (fun K hK => ?_) AllT.nil)
        go_simp
        have HI2 := hide (heap_alloc_new w2 (.cells #[.int .i64 x.a, .int .i64 x.b, .int .i64 x.c] 3))
        have HB2 := hide (HB1.out.alloc HB1.out.size (.cells #[.int .i64 x.a, .int .i64 x.b, .int .i64 x.c] 3))
        refine hK.out _ _ ((Below.heap_alloc w2 _ W.heap.size (Array.getElem?_eq_some_iff.1 (hHeld.trans HX.out)).1).trans hHeld) (fun hHeld1 => ?_)
        have HX2 := hide (hHeld1.trans HX.out)
        clear hK K hHeld hS2 hHeld1
        generalize w2.heap.size = ib at *
        generalize w2.alloc (.cells #[.int .i64 x.a, .int .i64 x.b, .int .i64 x.c] 3) = V at *
        (try simp only [Act.put, putA, putB, putC])
        refine wpAnyT_done (by kernel_rfl) ?_
        simp only [List.drop_succ_cons, List.drop_zero]
        go_wp2_with fail
        go_meet
        exact ⟨HDD.out _ _ HI2.out, HX2, HB2⟩
  case rest =>
    obtain ⟨HD, HX2, HB2⟩ := hcut
    clear HX HB HOP o1
    obtain ⟨w2, rfl⟩ : ∃ w2, w2 = wc := ⟨_, rfl⟩
    have HWd := hide (fun V (h : Hid (EnvP V)) => pword_any x.op V h hop)
    have hw : (⟨(wordN insWords x.op).toArray⟩ : ByteArray) = ⟨#[]⟩ ∧ (wordN insWords x.op != []) = false ∨ (⟨(wordN insWords x.op).toArray⟩ : ByteArray).toList.isEmpty = false ∧ (wordN insWords x.op != []) = true := by
      by_cases h : wordN insWords x.op = []
      · exact .inl ⟨by rw [h], by rw [h]; rfl⟩
      · exact .inr ⟨ba_ne (fun e => h (by have := congrArg (fun b : ByteArray => b.data.toList) e; simpa using this)), by simpa using h⟩
    have HN := hide (fun (w : World) (b : Nat) (h : w.heap[b]? = some (.cells #[.int .i64 x.a, .int .i64 x.b, .int .i64 x.c] 3 (0, 0))) => nums_any _ _ w (hide (dat_take h [x.a, x.b, x.c] rfl O.size 3 (by simp; omega))) (by simp; omega))
    have HZ := hide (fun (w : World) (hb : Below w2.heap.size w2 w) => all_zero _ _ w (hide (HD.out.later hb)) (by simp; omega))
    have HR := hide (fun V (h : Hid (EnvP V)) => operands_row x hop V h)
    rw [HOs.out] at HR
    generalize (wordN insWords x.op != []) = z0 at hw HF
    generalize (⟨(wordN insWords x.op).toArray⟩ : ByteArray) = F at hw HWd
    generalize ([x.a, x.b, x.c].take O.size).all numF = z1 at HF HN
    generalize ([x.a, x.b, x.c].drop O.size).all zeroF = z2 at HF HZ
    obtain ⟨c0, c1, c2, c3, -⟩ := row4 HX2.out rfl
    rcases hw with ⟨rfl, rfl⟩ | ⟨h0, rfl⟩
    · go_wp2_with fail
      refine (HWd.out w2 (hide (hP.out.below HB2.out))).mono ?_
      rintro e w3 ⟨rfl, hb⟩
      have HB3 := hide (HB2.out.trans (hb.mono HB2.out.size))
      clear hb c0 c1 c2 c3
      go_wp2_with fail
      go_ret
      exact ⟨by rw [HF.out]; rfl, HB3.out⟩
    go_wp2_with fail
    refine (HWd.out w2 (hide (hP.out.below HB2.out))).mono ?_
    rintro e w3 ⟨rfl, hb⟩
    have HB3 := hide (HB2.out.trans (hb.mono HB2.out.size))
    have HH3 := hide hb
    have hx3 := (hb.block W.heap.size (Array.getElem?_eq_some_iff.1 HX2.out).1).trans HX2.out
    clear c0 c1 c2 c3 hb HWd
    obtain ⟨c0, c1, c2, c3, -⟩ := row4 hx3 rfl
    go_wp2_with fail
    refine (HR.out w3 (hide (hP.out.below HB3.out))).mono ?_
    rintro e w4 ⟨b, rfl, hi, hb⟩
    have HB4 := hide (HB3.out.trans (hb.mono HB3.out.size))
    have HH4 := hide (HH3.out.trans (hb.mono HH3.out.size))
    have HN4 := hide (HN.out w4 b hi)
    clear c0 c1 c2 c3 hb HR hx3 HN hi
    go_wp2_with fail
    refine HN4.out.mono ?_
    rintro e w5 ⟨rfl, hb⟩
    have HB5 := hide (HB4.out.trans (hb.mono HB4.out.size))
    have HH5 := hide (HH4.out.trans (hb.mono HH4.out.size))
    clear hb HN4
    cases z1 with
    | false =>
      go_wp2_with fail
      go_ret
      exact ⟨by rw [HF.out]; rfl, HB5.out⟩
    | true =>
      go_wp2_with fail
      refine (HZ.out w5 HH5.out).mono ?_
      rintro e w6 ⟨rfl, hb⟩
      have HB6 := hide (HB5.out.trans (hb.mono HB5.out.size))
      clear hb HZ
      go_wp2_with fail
      go_ret
      exact ⟨by rw [HF.out]; rfl, HB6.out⟩
end Go.Proofs.YtndpnpohdoggjaaGreatDoor
