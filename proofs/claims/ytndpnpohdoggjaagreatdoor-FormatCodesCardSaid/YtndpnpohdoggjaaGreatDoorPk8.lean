/-
  Merged texts: format: all[T]: whether a condition holds for all elements.
-/
import Derived.Test.YtndpnpohdoggjaaGreatDoorPk7
import Derived.Test.YtndpnpohdoggjaaGreatDoorPk1
namespace Go.Proofs.YtndpnpohdoggjaaGreatDoor
open Go.RowKit
attribute [local go_sem] Later.cell
theorem all_step {α : Type} {l : List α} {p : α → Bool} {k : Nat} {x : α} (h : (l.take k).all p = true) (hx : l[k]? = some x) (hp : p x = true) : (l.take (k + 1)).all p = true := by
  obtain ⟨hk, rfl⟩ := List.getElem?_eq_some_iff.1 hx
  rw [List.take_succ_eq_append_getElem hk, List.all_append, h]
  simp [hp]
theorem all_stop {α : Type} {l : List α} {p : α → Bool} {k : Nat} {x : α} (hx : l[k]? = some x) (hp : p x = false) : l.all p = false := by
  rw [List.all_eq_false]
  exact ⟨x, List.mem_of_getElem? hx, by simp [hp]⟩
set_option maxRecDepth 100000 in
set_option maxHeartbeats 4000000 in
theorem idx_mod (bx : Nat) (v : Value) (l : List ModD) (p : ModD → Bool) (W : World) (hv : Hid (DAt W (fun _ => True) v (.row 4 (l.map ModD.cells)))) (hl : l.length ≤ 140737488355328) (hx0 : W.cell? ⟨bx, 0, none⟩ = some (.func (.func 21) #[] #[])) (hc : Hid (∀ x ∈ l, ∀ us w', Below W.heap.size W w' → DCells w' (fun _ => True) us (ModD.cells x) → Calls Tryz.prog 21 #[.agg us.toArray] w' fun e w'' => e = .returned (.bool (p x)) ∧ Below w'.heap.size w' w'')) :
    Calls Tryz.prog 143 #[v, .func (.func 90) #[] #[.pointer (some ⟨bx, 0, none⟩)]] W fun e w' => ∃ r : Int, e = .returned (.int .i64 r) ∧ (r < 0 ∧ l.all p = true ∨ 0 ≤ r ∧ l.all p = false) ∧ Below W.heap.size W w' := by
  obtain ⟨A, c, rfl, hA⟩ := hv.out.slice
  have HA := hide hA
  clear hA hv
  rw [List.length_map]
  have hbx := cell_lt hx0
  go_enter Tryz.func143, Tryz.ntmps143
  go_wp2_with fail
  go_loopw [8] (fun v8 wr => ∃ k : Nat, k ≤ l.length ∧ v8 = .int .i64 k ∧ (l.take k).all p = true ∧ Below W.heap.size W wr) (fun v8 _ => l.length - (intOf v8).toNat)
  case atStart => exact ⟨0, by omega, rfl, by simp, Below.refl _ _⟩
  case round =>
    obtain ⟨k, hk, rfl, ht, hbr⟩ := hrel
    have HT := hide ht
    have HBR := hide hbr
    clear ht
    by_cases hlt : k < l.length
    rotate_left
    · obtain rfl : k = l.length := by omega
      rw [List.take_length] at HT
      clear hbr hlt
      go_wp2_with fail
      go_ret
      exact ⟨_, rfl, .inl ⟨by decide, HT.out⟩, HBR.out⟩
    obtain ⟨x, hx⟩ : ∃ x, l[k]? = some x := ⟨_, List.getElem?_eq_getElem hlt⟩
    obtain ⟨b, off, rfl, hb, hca⟩ := HA.out.at_ hx
    obtain ⟨u0, c0, g0⟩ := hca 0 _ rfl
    obtain ⟨u1, c1, g1⟩ := hca 1 _ rfl
    obtain ⟨u2, c2, g2⟩ := hca 2 _ rfl
    obtain ⟨u3, c3, g3⟩ := hca 3 _ rfl
    clear hca
    have c0 := (HBR.out.cell (p := ⟨b, off + k * 4, none⟩) hb).trans c0
    have c1 := (HBR.out.cell (p := ⟨b, off + k * 4 + 1, none⟩) hb).trans c1
    have c2 := (HBR.out.cell (p := ⟨b, off + k * 4 + 2, none⟩) hb).trans c2
    have c3 := (HBR.out.cell (p := ⟨b, off + k * 4 + 3, none⟩) hb).trans c3
    have hbxw := (hbr.cell hbx).trans hx0
    have lbx : bx < wr.heap.size := Nat.lt_of_lt_of_le hbx hbr.size
    have HC := hide (fun w' (hbw : Below W.heap.size W w') => hc.out x (List.mem_of_getElem? hx) [u0, u1, u2, u3] w' hbw (DCells.cons (g0.later hbw) (DCells.cons (g1.later hbw) (DCells.cons (g2.later hbw) (DCells.cons (g3.later hbw) DCells.nil)))))
    have k0 : (0 : Int) ≤ (k : Int) ∧ (k : Int) < ((l.length : Nat) : Int) := by omega
    have HX := hide hx
    clear hx hbr
    cases hp : p x with
    | true =>
      have HTK := hide (all_step HT.out HX.out hp)
      rw [hp] at HC
      go_wp2_with (first | (go_at_call 90; go_in))
      refine (HC.out _ (HBR.out.alloc HBR.out.size _)).mono ?_
      rintro e w3 ⟨rfl, hb3⟩
      have HB3 := hide ((HBR.out.alloc HBR.out.size (.cells #[u0, u1, u2, u3] 39)).trans (hb3.mono (HBR.out.alloc HBR.out.size _).size))
      clear hb3 HC
      go_wp2_with fail
      go_roundw
      case rel => exact ⟨k + 1, by omega, by go_num, HTK.out, HB3.out⟩
      case measure => simp [intOf]; omega
    | false =>
      have HNO := hide (all_stop HX.out hp)
      rw [hp] at HC
      go_wp2_with (first | (go_at_call 90; go_in))
      refine (HC.out _ (HBR.out.alloc HBR.out.size _)).mono ?_
      rintro e w3 ⟨rfl, hb3⟩
      have HB3 := hide ((HBR.out.alloc HBR.out.size (.cells #[u0, u1, u2, u3] 39)).trans (hb3.mono (HBR.out.alloc HBR.out.size _).size))
      clear hb3 HC
      go_wp2_with fail
      go_ret
      exact ⟨_, rfl, .inr ⟨by omega, HNO.out⟩, HB3.out⟩
set_option maxRecDepth 100000 in
theorem all_mod (v : Value) (l : List ModD) (p : ModD → Bool) (W : World) (hv : Hid (DAt W (fun _ => True) v (.row 4 (l.map ModD.cells)))) (hl : l.length ≤ 140737488355328) (hc : Hid (∀ x ∈ l, ∀ us w', Below W.heap.size W w' → DCells w' (fun _ => True) us (ModD.cells x) → Calls Tryz.prog 21 #[.agg us.toArray] w' fun e w'' => e = .returned (.bool (p x)) ∧ Below w'.heap.size w' w'')) :
    Calls Tryz.prog 20 #[v, .func (.func 21) #[] #[]] W fun e w' => e = .returned (.bool (l.all p)) ∧ Below W.heap.size W w' := by
  have hmf : ∀ (fn : Fn) (first cap : Array Value) (w : World), (Instr.makeFunc fn first cap).run Tryz.prog w = .ok (.func fn first cap) w := fun _ _ _ _ => rfl
  have HB := hide ((Below.refl W.heap.size W).alloc (Nat.le_refl _) (.cells #[.func (.func 21) #[] #[]] 87))
  have HI := hide (idx_mod W.heap.size v l p (W.alloc (.cells #[.func (.func 21) #[] #[]] 87)) (hide (hv.out.later HB.out)) hl (by rw [cell_of_row _ _ 0 _ _ _ (heap_alloc_new W _)]; rfl) (hide (fun x hx us w' hb hd => hc.out x hx us w' (HB.out.trans (hb.mono HB.out.size)) hd)))
  go_enter Tryz.func20, Tryz.ntmps20
  go_wp2_with (first | (go_at_call 89; go_in))
  refine HI.out.mono ?_
  rintro e w2 ⟨r, rfl, hr, hb⟩
  have HB2 := hide (HB.out.trans (hb.mono HB.out.size))
  have HR := hide (show l.all p = !decide (0 ≤ r) by rcases hr with ⟨h1, h2⟩ | ⟨h1, h2⟩ <;> simp [h2] <;> omega)
  clear hb hr HI
  go_wp2_with fail
  go_ret
  exact ⟨by rw [HR.out]; rfl, HB2.out⟩
set_option maxRecDepth 100000 in
set_option maxHeartbeats 4000000 in
theorem idx_chan (bx : Nat) (v : Value) (l : List ChanD) (p : ChanD → Bool) (W : World) (hv : Hid (DAt W (fun _ => True) v (.row 4 (l.map ChanD.cells)))) (hl : l.length ≤ 140737488355328) (hx0 : W.cell? ⟨bx, 0, none⟩ = some (.func (.func 23) #[] #[])) (hc : Hid (∀ x ∈ l, ∀ us w', Below W.heap.size W w' → DCells w' (fun _ => True) us (ChanD.cells x) → Calls Tryz.prog 23 #[.agg us.toArray] w' fun e w'' => e = .returned (.bool (p x)) ∧ Below w'.heap.size w' w'')) :
    Calls Tryz.prog 150 #[v, .func (.func 95) #[] #[.pointer (some ⟨bx, 0, none⟩)]] W fun e w' => ∃ r : Int, e = .returned (.int .i64 r) ∧ (r < 0 ∧ l.all p = true ∨ 0 ≤ r ∧ l.all p = false) ∧ Below W.heap.size W w' := by
  obtain ⟨A, c, rfl, hA⟩ := hv.out.slice
  have HA := hide hA
  clear hA hv
  rw [List.length_map]
  have hbx := cell_lt hx0
  go_enter Tryz.func150, Tryz.ntmps150
  go_wp2_with fail
  go_loopw [8] (fun v8 wr => ∃ k : Nat, k ≤ l.length ∧ v8 = .int .i64 k ∧ (l.take k).all p = true ∧ Below W.heap.size W wr) (fun v8 _ => l.length - (intOf v8).toNat)
  case atStart => exact ⟨0, by omega, rfl, by simp, Below.refl _ _⟩
  case round =>
    obtain ⟨k, hk, rfl, ht, hbr⟩ := hrel
    have HT := hide ht
    have HBR := hide hbr
    clear ht
    by_cases hlt : k < l.length
    rotate_left
    · obtain rfl : k = l.length := by omega
      rw [List.take_length] at HT
      clear hbr hlt
      go_wp2_with fail
      go_ret
      exact ⟨_, rfl, .inl ⟨by decide, HT.out⟩, HBR.out⟩
    obtain ⟨x, hx⟩ : ∃ x, l[k]? = some x := ⟨_, List.getElem?_eq_getElem hlt⟩
    obtain ⟨b, off, rfl, hb, hca⟩ := HA.out.at_ hx
    obtain ⟨u0, c0, g0⟩ := hca 0 _ rfl
    obtain ⟨u1, c1, g1⟩ := hca 1 _ rfl
    obtain ⟨u2, c2, g2⟩ := hca 2 _ rfl
    obtain ⟨u3, c3, g3⟩ := hca 3 _ rfl
    clear hca
    have c0 := (HBR.out.cell (p := ⟨b, off + k * 4, none⟩) hb).trans c0
    have c1 := (HBR.out.cell (p := ⟨b, off + k * 4 + 1, none⟩) hb).trans c1
    have c2 := (HBR.out.cell (p := ⟨b, off + k * 4 + 2, none⟩) hb).trans c2
    have c3 := (HBR.out.cell (p := ⟨b, off + k * 4 + 3, none⟩) hb).trans c3
    have hbxw := (hbr.cell hbx).trans hx0
    have lbx : bx < wr.heap.size := Nat.lt_of_lt_of_le hbx hbr.size
    have HC := hide (fun w' (hbw : Below W.heap.size W w') => hc.out x (List.mem_of_getElem? hx) [u0, u1, u2, u3] w' hbw (DCells.cons (g0.later hbw) (DCells.cons (g1.later hbw) (DCells.cons (g2.later hbw) (DCells.cons (g3.later hbw) DCells.nil)))))
    have k0 : (0 : Int) ≤ (k : Int) ∧ (k : Int) < ((l.length : Nat) : Int) := by omega
    have HX := hide hx
    clear hx hbr
    cases hp : p x with
    | true =>
      have HTK := hide (all_step HT.out HX.out hp)
      rw [hp] at HC
      go_wp2_with (first | (go_at_call 95; go_in))
      refine (HC.out _ (HBR.out.alloc HBR.out.size _)).mono ?_
      rintro e w3 ⟨rfl, hb3⟩
      have HB3 := hide ((HBR.out.alloc HBR.out.size (.cells #[u0, u1, u2, u3] 90)).trans (hb3.mono (HBR.out.alloc HBR.out.size _).size))
      clear hb3 HC
      go_wp2_with fail
      go_roundw
      case rel => exact ⟨k + 1, by omega, by go_num, HTK.out, HB3.out⟩
      case measure => simp [intOf]; omega
    | false =>
      have HNO := hide (all_stop HX.out hp)
      rw [hp] at HC
      go_wp2_with (first | (go_at_call 95; go_in))
      refine (HC.out _ (HBR.out.alloc HBR.out.size _)).mono ?_
      rintro e w3 ⟨rfl, hb3⟩
      have HB3 := hide ((HBR.out.alloc HBR.out.size (.cells #[u0, u1, u2, u3] 90)).trans (hb3.mono (HBR.out.alloc HBR.out.size _).size))
      clear hb3 HC
      go_wp2_with fail
      go_ret
      exact ⟨_, rfl, .inr ⟨by omega, HNO.out⟩, HB3.out⟩
set_option maxRecDepth 100000 in
theorem all_chan (v : Value) (l : List ChanD) (p : ChanD → Bool) (W : World) (hv : Hid (DAt W (fun _ => True) v (.row 4 (l.map ChanD.cells)))) (hl : l.length ≤ 140737488355328) (hc : Hid (∀ x ∈ l, ∀ us w', Below W.heap.size W w' → DCells w' (fun _ => True) us (ChanD.cells x) → Calls Tryz.prog 23 #[.agg us.toArray] w' fun e w'' => e = .returned (.bool (p x)) ∧ Below w'.heap.size w' w'')) :
    Calls Tryz.prog 22 #[v, .func (.func 23) #[] #[]] W fun e w' => e = .returned (.bool (l.all p)) ∧ Below W.heap.size W w' := by
  have hmf : ∀ (fn : Fn) (first cap : Array Value) (w : World), (Instr.makeFunc fn first cap).run Tryz.prog w = .ok (.func fn first cap) w := fun _ _ _ _ => rfl
  have HB := hide ((Below.refl W.heap.size W).alloc (Nat.le_refl _) (.cells #[.func (.func 23) #[] #[]] 91))
  have HI := hide (idx_chan W.heap.size v l p (W.alloc (.cells #[.func (.func 23) #[] #[]] 91)) (hide (hv.out.later HB.out)) hl (by rw [cell_of_row _ _ 0 _ _ _ (heap_alloc_new W _)]; rfl) (hide (fun x hx us w' hb hd => hc.out x hx us w' (HB.out.trans (hb.mono HB.out.size)) hd)))
  go_enter Tryz.func22, Tryz.ntmps22
  go_wp2_with (first | (go_at_call 94; go_in))
  refine HI.out.mono ?_
  rintro e w2 ⟨r, rfl, hr, hb⟩
  have HB2 := hide (HB.out.trans (hb.mono HB.out.size))
  have HR := hide (show l.all p = !decide (0 ≤ r) by rcases hr with ⟨h1, h2⟩ | ⟨h1, h2⟩ <;> simp [h2] <;> omega)
  clear hb hr HI
  go_wp2_with fail
  go_ret
  exact ⟨by rw [HR.out]; rfl, HB2.out⟩
set_option maxRecDepth 100000 in
set_option maxHeartbeats 4000000 in
theorem idx_sw (bx : Nat) (v : Value) (l : List SwD) (p : SwD → Bool) (W : World) (hv : Hid (DAt W (fun _ => True) v (.row 4 (l.map SwD.cells)))) (hl : l.length ≤ 140737488355328) (hx0 : W.cell? ⟨bx, 0, none⟩ = some (.func (.func 25) #[] #[])) (hc : Hid (∀ x ∈ l, ∀ us w', Below W.heap.size W w' → DCells w' (fun _ => True) us (SwD.cells x) → Calls Tryz.prog 25 #[.agg us.toArray] w' fun e w'' => e = .returned (.bool (p x)) ∧ Below w'.heap.size w' w'')) :
    Calls Tryz.prog 153 #[v, .func (.func 98) #[] #[.pointer (some ⟨bx, 0, none⟩)]] W fun e w' => ∃ r : Int, e = .returned (.int .i64 r) ∧ (r < 0 ∧ l.all p = true ∨ 0 ≤ r ∧ l.all p = false) ∧ Below W.heap.size W w' := by
  obtain ⟨A, c, rfl, hA⟩ := hv.out.slice
  have HA := hide hA
  clear hA hv
  rw [List.length_map]
  have hbx := cell_lt hx0
  go_enter Tryz.func153, Tryz.ntmps153
  go_wp2_with fail
  go_loopw [8] (fun v8 wr => ∃ k : Nat, k ≤ l.length ∧ v8 = .int .i64 k ∧ (l.take k).all p = true ∧ Below W.heap.size W wr) (fun v8 _ => l.length - (intOf v8).toNat)
  case atStart => exact ⟨0, by omega, rfl, by simp, Below.refl _ _⟩
  case round =>
    obtain ⟨k, hk, rfl, ht, hbr⟩ := hrel
    have HT := hide ht
    have HBR := hide hbr
    clear ht
    by_cases hlt : k < l.length
    rotate_left
    · obtain rfl : k = l.length := by omega
      rw [List.take_length] at HT
      clear hbr hlt
      go_wp2_with fail
      go_ret
      exact ⟨_, rfl, .inl ⟨by decide, HT.out⟩, HBR.out⟩
    obtain ⟨x, hx⟩ : ∃ x, l[k]? = some x := ⟨_, List.getElem?_eq_getElem hlt⟩
    obtain ⟨b, off, rfl, hb, hca⟩ := HA.out.at_ hx
    obtain ⟨u0, c0, g0⟩ := hca 0 _ rfl
    obtain ⟨u1, c1, g1⟩ := hca 1 _ rfl
    obtain ⟨u2, c2, g2⟩ := hca 2 _ rfl
    obtain ⟨u3, c3, g3⟩ := hca 3 _ rfl
    clear hca
    have c0 := (HBR.out.cell (p := ⟨b, off + k * 4, none⟩) hb).trans c0
    have c1 := (HBR.out.cell (p := ⟨b, off + k * 4 + 1, none⟩) hb).trans c1
    have c2 := (HBR.out.cell (p := ⟨b, off + k * 4 + 2, none⟩) hb).trans c2
    have c3 := (HBR.out.cell (p := ⟨b, off + k * 4 + 3, none⟩) hb).trans c3
    have hbxw := (hbr.cell hbx).trans hx0
    have lbx : bx < wr.heap.size := Nat.lt_of_lt_of_le hbx hbr.size
    have HC := hide (fun w' (hbw : Below W.heap.size W w') => hc.out x (List.mem_of_getElem? hx) [u0, u1, u2, u3] w' hbw (DCells.cons (g0.later hbw) (DCells.cons (g1.later hbw) (DCells.cons (g2.later hbw) (DCells.cons (g3.later hbw) DCells.nil)))))
    have k0 : (0 : Int) ≤ (k : Int) ∧ (k : Int) < ((l.length : Nat) : Int) := by omega
    have HX := hide hx
    clear hx hbr
    cases hp : p x with
    | true =>
      have HTK := hide (all_step HT.out HX.out hp)
      rw [hp] at HC
      go_wp2_with (first | (go_at_call 98; go_in))
      refine (HC.out _ (HBR.out.alloc HBR.out.size _)).mono ?_
      rintro e w3 ⟨rfl, hb3⟩
      have HB3 := hide ((HBR.out.alloc HBR.out.size (.cells #[u0, u1, u2, u3] 94)).trans (hb3.mono (HBR.out.alloc HBR.out.size _).size))
      clear hb3 HC
      go_wp2_with fail
      go_roundw
      case rel => exact ⟨k + 1, by omega, by go_num, HTK.out, HB3.out⟩
      case measure => simp [intOf]; omega
    | false =>
      have HNO := hide (all_stop HX.out hp)
      rw [hp] at HC
      go_wp2_with (first | (go_at_call 98; go_in))
      refine (HC.out _ (HBR.out.alloc HBR.out.size _)).mono ?_
      rintro e w3 ⟨rfl, hb3⟩
      have HB3 := hide ((HBR.out.alloc HBR.out.size (.cells #[u0, u1, u2, u3] 94)).trans (hb3.mono (HBR.out.alloc HBR.out.size _).size))
      clear hb3 HC
      go_wp2_with fail
      go_ret
      exact ⟨_, rfl, .inr ⟨by omega, HNO.out⟩, HB3.out⟩
set_option maxRecDepth 100000 in
theorem all_sw (v : Value) (l : List SwD) (p : SwD → Bool) (W : World) (hv : Hid (DAt W (fun _ => True) v (.row 4 (l.map SwD.cells)))) (hl : l.length ≤ 140737488355328) (hc : Hid (∀ x ∈ l, ∀ us w', Below W.heap.size W w' → DCells w' (fun _ => True) us (SwD.cells x) → Calls Tryz.prog 25 #[.agg us.toArray] w' fun e w'' => e = .returned (.bool (p x)) ∧ Below w'.heap.size w' w'')) :
    Calls Tryz.prog 24 #[v, .func (.func 25) #[] #[]] W fun e w' => e = .returned (.bool (l.all p)) ∧ Below W.heap.size W w' := by
  have hmf : ∀ (fn : Fn) (first cap : Array Value) (w : World), (Instr.makeFunc fn first cap).run Tryz.prog w = .ok (.func fn first cap) w := fun _ _ _ _ => rfl
  have HB := hide ((Below.refl W.heap.size W).alloc (Nat.le_refl _) (.cells #[.func (.func 25) #[] #[]] 95))
  have HI := hide (idx_sw W.heap.size v l p (W.alloc (.cells #[.func (.func 25) #[] #[]] 95)) (hide (hv.out.later HB.out)) hl (by rw [cell_of_row _ _ 0 _ _ _ (heap_alloc_new W _)]; rfl) (hide (fun x hx us w' hb hd => hc.out x hx us w' (HB.out.trans (hb.mono HB.out.size)) hd)))
  go_enter Tryz.func24, Tryz.ntmps24
  go_wp2_with (first | (go_at_call 97; go_in))
  refine HI.out.mono ?_
  rintro e w2 ⟨r, rfl, hr, hb⟩
  have HB2 := hide (HB.out.trans (hb.mono HB.out.size))
  have HR := hide (show l.all p = !decide (0 ≤ r) by rcases hr with ⟨h1, h2⟩ | ⟨h1, h2⟩ <;> simp [h2] <;> omega)
  clear hb hr HI
  go_wp2_with fail
  go_ret
  exact ⟨by rw [HR.out]; rfl, HB2.out⟩
set_option maxRecDepth 100000 in
set_option maxHeartbeats 4000000 in
theorem idx_link (bx : Nat) (v : Value) (l : List LinkD) (p : LinkD → Bool) (W : World) (hv : Hid (DAt W (fun _ => True) v (.row 4 (l.map LinkD.cells)))) (hl : l.length ≤ 140737488355328) (hx0 : W.cell? ⟨bx, 0, none⟩ = some (.func (.func 27) #[] #[])) (hc : Hid (∀ x ∈ l, ∀ us w', Below W.heap.size W w' → DCells w' (fun _ => True) us (LinkD.cells x) → Calls Tryz.prog 27 #[.agg us.toArray] w' fun e w'' => e = .returned (.bool (p x)) ∧ Below w'.heap.size w' w'')) :
    Calls Tryz.prog 154 #[v, .func (.func 100) #[] #[.pointer (some ⟨bx, 0, none⟩)]] W fun e w' => ∃ r : Int, e = .returned (.int .i64 r) ∧ (r < 0 ∧ l.all p = true ∨ 0 ≤ r ∧ l.all p = false) ∧ Below W.heap.size W w' := by
  obtain ⟨A, c, rfl, hA⟩ := hv.out.slice
  have HA := hide hA
  clear hA hv
  rw [List.length_map]
  have hbx := cell_lt hx0
  go_enter Tryz.func154, Tryz.ntmps154
  go_wp2_with fail
  go_loopw [8] (fun v8 wr => ∃ k : Nat, k ≤ l.length ∧ v8 = .int .i64 k ∧ (l.take k).all p = true ∧ Below W.heap.size W wr) (fun v8 _ => l.length - (intOf v8).toNat)
  case atStart => exact ⟨0, by omega, rfl, by simp, Below.refl _ _⟩
  case round =>
    obtain ⟨k, hk, rfl, ht, hbr⟩ := hrel
    have HT := hide ht
    have HBR := hide hbr
    clear ht
    by_cases hlt : k < l.length
    rotate_left
    · obtain rfl : k = l.length := by omega
      rw [List.take_length] at HT
      clear hbr hlt
      go_wp2_with fail
      go_ret
      exact ⟨_, rfl, .inl ⟨by decide, HT.out⟩, HBR.out⟩
    obtain ⟨x, hx⟩ : ∃ x, l[k]? = some x := ⟨_, List.getElem?_eq_getElem hlt⟩
    obtain ⟨b, off, rfl, hb, hca⟩ := HA.out.at_ hx
    obtain ⟨u0, c0, g0⟩ := hca 0 _ rfl
    obtain ⟨u1, c1, g1⟩ := hca 1 _ rfl
    obtain ⟨u2, c2, g2⟩ := hca 2 _ rfl
    obtain ⟨u3, c3, g3⟩ := hca 3 _ rfl
    clear hca
    have c0 := (HBR.out.cell (p := ⟨b, off + k * 4, none⟩) hb).trans c0
    have c1 := (HBR.out.cell (p := ⟨b, off + k * 4 + 1, none⟩) hb).trans c1
    have c2 := (HBR.out.cell (p := ⟨b, off + k * 4 + 2, none⟩) hb).trans c2
    have c3 := (HBR.out.cell (p := ⟨b, off + k * 4 + 3, none⟩) hb).trans c3
    have hbxw := (hbr.cell hbx).trans hx0
    have lbx : bx < wr.heap.size := Nat.lt_of_lt_of_le hbx hbr.size
    have HC := hide (fun w' (hbw : Below W.heap.size W w') => hc.out x (List.mem_of_getElem? hx) [u0, u1, u2, u3] w' hbw (DCells.cons (g0.later hbw) (DCells.cons (g1.later hbw) (DCells.cons (g2.later hbw) (DCells.cons (g3.later hbw) DCells.nil)))))
    have k0 : (0 : Int) ≤ (k : Int) ∧ (k : Int) < ((l.length : Nat) : Int) := by omega
    have HX := hide hx
    clear hx hbr
    cases hp : p x with
    | true =>
      have HTK := hide (all_step HT.out HX.out hp)
      rw [hp] at HC
      go_wp2_with (first | (go_at_call 100; go_in))
      refine (HC.out _ (HBR.out.alloc HBR.out.size _)).mono ?_
      rintro e w3 ⟨rfl, hb3⟩
      have HB3 := hide ((HBR.out.alloc HBR.out.size (.cells #[u0, u1, u2, u3] 98)).trans (hb3.mono (HBR.out.alloc HBR.out.size _).size))
      clear hb3 HC
      go_wp2_with fail
      go_roundw
      case rel => exact ⟨k + 1, by omega, by go_num, HTK.out, HB3.out⟩
      case measure => simp [intOf]; omega
    | false =>
      have HNO := hide (all_stop HX.out hp)
      rw [hp] at HC
      go_wp2_with (first | (go_at_call 100; go_in))
      refine (HC.out _ (HBR.out.alloc HBR.out.size _)).mono ?_
      rintro e w3 ⟨rfl, hb3⟩
      have HB3 := hide ((HBR.out.alloc HBR.out.size (.cells #[u0, u1, u2, u3] 98)).trans (hb3.mono (HBR.out.alloc HBR.out.size _).size))
      clear hb3 HC
      go_wp2_with fail
      go_ret
      exact ⟨_, rfl, .inr ⟨by omega, HNO.out⟩, HB3.out⟩
set_option maxRecDepth 100000 in
theorem all_link (v : Value) (l : List LinkD) (p : LinkD → Bool) (W : World) (hv : Hid (DAt W (fun _ => True) v (.row 4 (l.map LinkD.cells)))) (hl : l.length ≤ 140737488355328) (hc : Hid (∀ x ∈ l, ∀ us w', Below W.heap.size W w' → DCells w' (fun _ => True) us (LinkD.cells x) → Calls Tryz.prog 27 #[.agg us.toArray] w' fun e w'' => e = .returned (.bool (p x)) ∧ Below w'.heap.size w' w'')) :
    Calls Tryz.prog 26 #[v, .func (.func 27) #[] #[]] W fun e w' => e = .returned (.bool (l.all p)) ∧ Below W.heap.size W w' := by
  have hmf : ∀ (fn : Fn) (first cap : Array Value) (w : World), (Instr.makeFunc fn first cap).run Tryz.prog w = .ok (.func fn first cap) w := fun _ _ _ _ => rfl
  have HB := hide ((Below.refl W.heap.size W).alloc (Nat.le_refl _) (.cells #[.func (.func 27) #[] #[]] 99))
  have HI := hide (idx_link W.heap.size v l p (W.alloc (.cells #[.func (.func 27) #[] #[]] 99)) (hide (hv.out.later HB.out)) hl (by rw [cell_of_row _ _ 0 _ _ _ (heap_alloc_new W _)]; rfl) (hide (fun x hx us w' hb hd => hc.out x hx us w' (HB.out.trans (hb.mono HB.out.size)) hd)))
  go_enter Tryz.func26, Tryz.ntmps26
  go_wp2_with (first | (go_at_call 99; go_in))
  refine HI.out.mono ?_
  rintro e w2 ⟨r, rfl, hr, hb⟩
  have HB2 := hide (HB.out.trans (hb.mono HB.out.size))
  have HR := hide (show l.all p = !decide (0 ≤ r) by rcases hr with ⟨h1, h2⟩ | ⟨h1, h2⟩ <;> simp [h2] <;> omega)
  clear hb hr HI
  go_wp2_with fail
  go_ret
  exact ⟨by rw [HR.out]; rfl, HB2.out⟩
set_option maxRecDepth 100000 in
set_option maxHeartbeats 4000000 in
theorem idx_vl (bx : Nat) (v : Value) (l : List VlD) (p : VlD → Bool) (W : World) (hv : Hid (DAt W (fun _ => True) v (.row 7 (l.map VlD.cells)))) (hl : l.length ≤ 140737488355328) (hx0 : W.cell? ⟨bx, 0, none⟩ = some (.func (.func 29) #[] #[])) (hc : Hid (∀ x ∈ l, ∀ us w', Below W.heap.size W w' → DCells w' (fun _ => True) us (VlD.cells x) → Calls Tryz.prog 29 #[.agg us.toArray] w' fun e w'' => e = .returned (.bool (p x)) ∧ Below w'.heap.size w' w'')) :
    Calls Tryz.prog 157 #[v, .func (.func 103) #[] #[.pointer (some ⟨bx, 0, none⟩)]] W fun e w' => ∃ r : Int, e = .returned (.int .i64 r) ∧ (r < 0 ∧ l.all p = true ∨ 0 ≤ r ∧ l.all p = false) ∧ Below W.heap.size W w' := by
  obtain ⟨A, c, rfl, hA⟩ := hv.out.slice
  have HA := hide hA
  clear hA hv
  rw [List.length_map]
  have hbx := cell_lt hx0
  go_enter Tryz.func157, Tryz.ntmps157
  go_wp2_with fail
  go_loopw [8] (fun v8 wr => ∃ k : Nat, k ≤ l.length ∧ v8 = .int .i64 k ∧ (l.take k).all p = true ∧ Below W.heap.size W wr) (fun v8 _ => l.length - (intOf v8).toNat)
  case atStart => exact ⟨0, by omega, rfl, by simp, Below.refl _ _⟩
  case round =>
    obtain ⟨k, hk, rfl, ht, hbr⟩ := hrel
    have HT := hide ht
    have HBR := hide hbr
    clear ht
    by_cases hlt : k < l.length
    rotate_left
    · obtain rfl : k = l.length := by omega
      rw [List.take_length] at HT
      clear hbr hlt
      go_wp2_with fail
      go_ret
      exact ⟨_, rfl, .inl ⟨by decide, HT.out⟩, HBR.out⟩
    obtain ⟨x, hx⟩ : ∃ x, l[k]? = some x := ⟨_, List.getElem?_eq_getElem hlt⟩
    obtain ⟨b, off, rfl, hb, hca⟩ := HA.out.at_ hx
    obtain ⟨u0, c0, g0⟩ := hca 0 _ rfl
    obtain ⟨u1, c1, g1⟩ := hca 1 _ rfl
    obtain ⟨u2, c2, g2⟩ := hca 2 _ rfl
    obtain ⟨u3, c3, g3⟩ := hca 3 _ rfl
    obtain ⟨u4, c4, g4⟩ := hca 4 _ rfl
    obtain ⟨u5, c5, g5⟩ := hca 5 _ rfl
    obtain ⟨u6, c6, g6⟩ := hca 6 _ rfl
    clear hca
    have c0 := (HBR.out.cell (p := ⟨b, off + k * 7, none⟩) hb).trans c0
    have c1 := (HBR.out.cell (p := ⟨b, off + k * 7 + 1, none⟩) hb).trans c1
    have c2 := (HBR.out.cell (p := ⟨b, off + k * 7 + 2, none⟩) hb).trans c2
    have c3 := (HBR.out.cell (p := ⟨b, off + k * 7 + 3, none⟩) hb).trans c3
    have c4 := (HBR.out.cell (p := ⟨b, off + k * 7 + 4, none⟩) hb).trans c4
    have c5 := (HBR.out.cell (p := ⟨b, off + k * 7 + 5, none⟩) hb).trans c5
    have c6 := (HBR.out.cell (p := ⟨b, off + k * 7 + 6, none⟩) hb).trans c6
    have hbxw := (hbr.cell hbx).trans hx0
    have lbx : bx < wr.heap.size := Nat.lt_of_lt_of_le hbx hbr.size
    have HC := hide (fun w' (hbw : Below W.heap.size W w') => hc.out x (List.mem_of_getElem? hx) [u0, u1, u2, u3, u4, u5, u6] w' hbw (DCells.cons (g0.later hbw) (DCells.cons (g1.later hbw) (DCells.cons (g2.later hbw) (DCells.cons (g3.later hbw) (DCells.cons (g4.later hbw) (DCells.cons (g5.later hbw) (DCells.cons (g6.later hbw) DCells.nil))))))))
    have k0 : (0 : Int) ≤ (k : Int) ∧ (k : Int) < ((l.length : Nat) : Int) := by omega
    have HX := hide hx
    clear hx hbr
    cases hp : p x with
    | true =>
      have HTK := hide (all_step HT.out HX.out hp)
      rw [hp] at HC
      go_wp2_with (first | (go_at_call 103; go_in))
      refine (HC.out _ (HBR.out.alloc HBR.out.size _)).mono ?_
      rintro e w3 ⟨rfl, hb3⟩
      have HB3 := hide ((HBR.out.alloc HBR.out.size (.cells #[u0, u1, u2, u3, u4, u5, u6] 62)).trans (hb3.mono (HBR.out.alloc HBR.out.size _).size))
      clear hb3 HC
      go_wp2_with fail
      go_roundw
      case rel => exact ⟨k + 1, by omega, by go_num, HTK.out, HB3.out⟩
      case measure => simp [intOf]; omega
    | false =>
      have HNO := hide (all_stop HX.out hp)
      rw [hp] at HC
      go_wp2_with (first | (go_at_call 103; go_in))
      refine (HC.out _ (HBR.out.alloc HBR.out.size _)).mono ?_
      rintro e w3 ⟨rfl, hb3⟩
      have HB3 := hide ((HBR.out.alloc HBR.out.size (.cells #[u0, u1, u2, u3, u4, u5, u6] 62)).trans (hb3.mono (HBR.out.alloc HBR.out.size _).size))
      clear hb3 HC
      go_wp2_with fail
      go_ret
      exact ⟨_, rfl, .inr ⟨by omega, HNO.out⟩, HB3.out⟩
set_option maxRecDepth 100000 in
theorem all_vl (v : Value) (l : List VlD) (p : VlD → Bool) (W : World) (hv : Hid (DAt W (fun _ => True) v (.row 7 (l.map VlD.cells)))) (hl : l.length ≤ 140737488355328) (hc : Hid (∀ x ∈ l, ∀ us w', Below W.heap.size W w' → DCells w' (fun _ => True) us (VlD.cells x) → Calls Tryz.prog 29 #[.agg us.toArray] w' fun e w'' => e = .returned (.bool (p x)) ∧ Below w'.heap.size w' w'')) :
    Calls Tryz.prog 28 #[v, .func (.func 29) #[] #[]] W fun e w' => e = .returned (.bool (l.all p)) ∧ Below W.heap.size W w' := by
  have hmf : ∀ (fn : Fn) (first cap : Array Value) (w : World), (Instr.makeFunc fn first cap).run Tryz.prog w = .ok (.func fn first cap) w := fun _ _ _ _ => rfl
  have HB := hide ((Below.refl W.heap.size W).alloc (Nat.le_refl _) (.cells #[.func (.func 29) #[] #[]] 101))
  have HI := hide (idx_vl W.heap.size v l p (W.alloc (.cells #[.func (.func 29) #[] #[]] 101)) (hide (hv.out.later HB.out)) hl (by rw [cell_of_row _ _ 0 _ _ _ (heap_alloc_new W _)]; rfl) (hide (fun x hx us w' hb hd => hc.out x hx us w' (HB.out.trans (hb.mono HB.out.size)) hd)))
  go_enter Tryz.func28, Tryz.ntmps28
  go_wp2_with (first | (go_at_call 102; go_in))
  refine HI.out.mono ?_
  rintro e w2 ⟨r, rfl, hr, hb⟩
  have HB2 := hide (HB.out.trans (hb.mono HB.out.size))
  have HR := hide (show l.all p = !decide (0 ≤ r) by rcases hr with ⟨h1, h2⟩ | ⟨h1, h2⟩ <;> simp [h2] <;> omega)
  clear hb hr HI
  go_wp2_with fail
  go_ret
  exact ⟨by rw [HR.out]; rfl, HB2.out⟩
set_option maxRecDepth 100000 in
set_option maxHeartbeats 4000000 in
theorem idx_health (bx : Nat) (v : Value) (l : List HealthD) (p : HealthD → Bool) (W : World) (hv : Hid (DAt W (fun _ => True) v (.row 5 (l.map HealthD.cells)))) (hl : l.length ≤ 140737488355328) (hx0 : W.cell? ⟨bx, 0, none⟩ = some (.func (.func 31) #[] #[])) (hc : Hid (∀ x ∈ l, ∀ us w', Below W.heap.size W w' → DCells w' (fun _ => True) us (HealthD.cells x) → Calls Tryz.prog 31 #[.agg us.toArray] w' fun e w'' => e = .returned (.bool (p x)) ∧ Below w'.heap.size w' w'')) :
    Calls Tryz.prog 158 #[v, .func (.func 105) #[] #[.pointer (some ⟨bx, 0, none⟩)]] W fun e w' => ∃ r : Int, e = .returned (.int .i64 r) ∧ (r < 0 ∧ l.all p = true ∨ 0 ≤ r ∧ l.all p = false) ∧ Below W.heap.size W w' := by
  obtain ⟨A, c, rfl, hA⟩ := hv.out.slice
  have HA := hide hA
  clear hA hv
  rw [List.length_map]
  have hbx := cell_lt hx0
  go_enter Tryz.func158, Tryz.ntmps158
  go_wp2_with fail
  go_loopw [8] (fun v8 wr => ∃ k : Nat, k ≤ l.length ∧ v8 = .int .i64 k ∧ (l.take k).all p = true ∧ Below W.heap.size W wr) (fun v8 _ => l.length - (intOf v8).toNat)
  case atStart => exact ⟨0, by omega, rfl, by simp, Below.refl _ _⟩
  case round =>
    obtain ⟨k, hk, rfl, ht, hbr⟩ := hrel
    have HT := hide ht
    have HBR := hide hbr
    clear ht
    by_cases hlt : k < l.length
    rotate_left
    · obtain rfl : k = l.length := by omega
      rw [List.take_length] at HT
      clear hbr hlt
      go_wp2_with fail
      go_ret
      exact ⟨_, rfl, .inl ⟨by decide, HT.out⟩, HBR.out⟩
    obtain ⟨x, hx⟩ : ∃ x, l[k]? = some x := ⟨_, List.getElem?_eq_getElem hlt⟩
    obtain ⟨b, off, rfl, hb, hca⟩ := HA.out.at_ hx
    obtain ⟨u0, c0, g0⟩ := hca 0 _ rfl
    obtain ⟨u1, c1, g1⟩ := hca 1 _ rfl
    obtain ⟨u2, c2, g2⟩ := hca 2 _ rfl
    obtain ⟨u3, c3, g3⟩ := hca 3 _ rfl
    obtain ⟨u4, c4, g4⟩ := hca 4 _ rfl
    clear hca
    have c0 := (HBR.out.cell (p := ⟨b, off + k * 5, none⟩) hb).trans c0
    have c1 := (HBR.out.cell (p := ⟨b, off + k * 5 + 1, none⟩) hb).trans c1
    have c2 := (HBR.out.cell (p := ⟨b, off + k * 5 + 2, none⟩) hb).trans c2
    have c3 := (HBR.out.cell (p := ⟨b, off + k * 5 + 3, none⟩) hb).trans c3
    have c4 := (HBR.out.cell (p := ⟨b, off + k * 5 + 4, none⟩) hb).trans c4
    have hbxw := (hbr.cell hbx).trans hx0
    have lbx : bx < wr.heap.size := Nat.lt_of_lt_of_le hbx hbr.size
    have HC := hide (fun w' (hbw : Below W.heap.size W w') => hc.out x (List.mem_of_getElem? hx) [u0, u1, u2, u3, u4] w' hbw (DCells.cons (g0.later hbw) (DCells.cons (g1.later hbw) (DCells.cons (g2.later hbw) (DCells.cons (g3.later hbw) (DCells.cons (g4.later hbw) DCells.nil))))))
    have k0 : (0 : Int) ≤ (k : Int) ∧ (k : Int) < ((l.length : Nat) : Int) := by omega
    have HX := hide hx
    clear hx hbr
    cases hp : p x with
    | true =>
      have HTK := hide (all_step HT.out HX.out hp)
      rw [hp] at HC
      go_wp2_with (first | (go_at_call 105; go_in))
      refine (HC.out _ (HBR.out.alloc HBR.out.size _)).mono ?_
      rintro e w3 ⟨rfl, hb3⟩
      have HB3 := hide ((HBR.out.alloc HBR.out.size (.cells #[u0, u1, u2, u3, u4] 104)).trans (hb3.mono (HBR.out.alloc HBR.out.size _).size))
      clear hb3 HC
      go_wp2_with fail
      go_roundw
      case rel => exact ⟨k + 1, by omega, by go_num, HTK.out, HB3.out⟩
      case measure => simp [intOf]; omega
    | false =>
      have HNO := hide (all_stop HX.out hp)
      rw [hp] at HC
      go_wp2_with (first | (go_at_call 105; go_in))
      refine (HC.out _ (HBR.out.alloc HBR.out.size _)).mono ?_
      rintro e w3 ⟨rfl, hb3⟩
      have HB3 := hide ((HBR.out.alloc HBR.out.size (.cells #[u0, u1, u2, u3, u4] 104)).trans (hb3.mono (HBR.out.alloc HBR.out.size _).size))
      clear hb3 HC
      go_wp2_with fail
      go_ret
      exact ⟨_, rfl, .inr ⟨by omega, HNO.out⟩, HB3.out⟩
set_option maxRecDepth 100000 in
theorem all_health (v : Value) (l : List HealthD) (p : HealthD → Bool) (W : World) (hv : Hid (DAt W (fun _ => True) v (.row 5 (l.map HealthD.cells)))) (hl : l.length ≤ 140737488355328) (hc : Hid (∀ x ∈ l, ∀ us w', Below W.heap.size W w' → DCells w' (fun _ => True) us (HealthD.cells x) → Calls Tryz.prog 31 #[.agg us.toArray] w' fun e w'' => e = .returned (.bool (p x)) ∧ Below w'.heap.size w' w'')) :
    Calls Tryz.prog 30 #[v, .func (.func 31) #[] #[]] W fun e w' => e = .returned (.bool (l.all p)) ∧ Below W.heap.size W w' := by
  have hmf : ∀ (fn : Fn) (first cap : Array Value) (w : World), (Instr.makeFunc fn first cap).run Tryz.prog w = .ok (.func fn first cap) w := fun _ _ _ _ => rfl
  have HB := hide ((Below.refl W.heap.size W).alloc (Nat.le_refl _) (.cells #[.func (.func 31) #[] #[]] 105))
  have HI := hide (idx_health W.heap.size v l p (W.alloc (.cells #[.func (.func 31) #[] #[]] 105)) (hide (hv.out.later HB.out)) hl (by rw [cell_of_row _ _ 0 _ _ _ (heap_alloc_new W _)]; rfl) (hide (fun x hx us w' hb hd => hc.out x hx us w' (HB.out.trans (hb.mono HB.out.size)) hd)))
  go_enter Tryz.func30, Tryz.ntmps30
  go_wp2_with (first | (go_at_call 104; go_in))
  refine HI.out.mono ?_
  rintro e w2 ⟨r, rfl, hr, hb⟩
  have HB2 := hide (HB.out.trans (hb.mono HB.out.size))
  have HR := hide (show l.all p = !decide (0 ≤ r) by rcases hr with ⟨h1, h2⟩ | ⟨h1, h2⟩ <;> simp [h2] <;> omega)
  clear hb hr HI
  go_wp2_with fail
  go_ret
  exact ⟨by rw [HR.out]; rfl, HB2.out⟩
set_option maxRecDepth 100000 in
set_option maxHeartbeats 4000000 in
theorem idx_cause (bx : Nat) (v : Value) (l : List CauseD) (p : CauseD → Bool) (W : World) (hv : Hid (DAt W (fun _ => True) v (.row 3 (l.map CauseD.cells)))) (hl : l.length ≤ 140737488355328) (hx0 : W.cell? ⟨bx, 0, none⟩ = some (.func (.func 33) #[] #[])) (hc : Hid (∀ x ∈ l, ∀ us w', Below W.heap.size W w' → DCells w' (fun _ => True) us (CauseD.cells x) → Calls Tryz.prog 33 #[.agg us.toArray] w' fun e w'' => e = .returned (.bool (p x)) ∧ Below w'.heap.size w' w'')) :
    Calls Tryz.prog 160 #[v, .func (.func 111) #[] #[.pointer (some ⟨bx, 0, none⟩)]] W fun e w' => ∃ r : Int, e = .returned (.int .i64 r) ∧ (r < 0 ∧ l.all p = true ∨ 0 ≤ r ∧ l.all p = false) ∧ Below W.heap.size W w' := by
  obtain ⟨A, c, rfl, hA⟩ := hv.out.slice
  have HA := hide hA
  clear hA hv
  rw [List.length_map]
  have hbx := cell_lt hx0
  go_enter Tryz.func160, Tryz.ntmps160
  go_wp2_with fail
  go_loopw [8] (fun v8 wr => ∃ k : Nat, k ≤ l.length ∧ v8 = .int .i64 k ∧ (l.take k).all p = true ∧ Below W.heap.size W wr) (fun v8 _ => l.length - (intOf v8).toNat)
  case atStart => exact ⟨0, by omega, rfl, by simp, Below.refl _ _⟩
  case round =>
    obtain ⟨k, hk, rfl, ht, hbr⟩ := hrel
    have HT := hide ht
    have HBR := hide hbr
    clear ht
    by_cases hlt : k < l.length
    rotate_left
    · obtain rfl : k = l.length := by omega
      rw [List.take_length] at HT
      clear hbr hlt
      go_wp2_with fail
      go_ret
      exact ⟨_, rfl, .inl ⟨by decide, HT.out⟩, HBR.out⟩
    obtain ⟨x, hx⟩ : ∃ x, l[k]? = some x := ⟨_, List.getElem?_eq_getElem hlt⟩
    obtain ⟨b, off, rfl, hb, hca⟩ := HA.out.at_ hx
    obtain ⟨u0, c0, g0⟩ := hca 0 _ rfl
    obtain ⟨u1, c1, g1⟩ := hca 1 _ rfl
    obtain ⟨u2, c2, g2⟩ := hca 2 _ rfl
    clear hca
    have c0 := (HBR.out.cell (p := ⟨b, off + k * 3, none⟩) hb).trans c0
    have c1 := (HBR.out.cell (p := ⟨b, off + k * 3 + 1, none⟩) hb).trans c1
    have c2 := (HBR.out.cell (p := ⟨b, off + k * 3 + 2, none⟩) hb).trans c2
    have hbxw := (hbr.cell hbx).trans hx0
    have lbx : bx < wr.heap.size := Nat.lt_of_lt_of_le hbx hbr.size
    have HC := hide (fun w' (hbw : Below W.heap.size W w') => hc.out x (List.mem_of_getElem? hx) [u0, u1, u2] w' hbw (DCells.cons (g0.later hbw) (DCells.cons (g1.later hbw) (DCells.cons (g2.later hbw) DCells.nil))))
    have k0 : (0 : Int) ≤ (k : Int) ∧ (k : Int) < ((l.length : Nat) : Int) := by omega
    have HX := hide hx
    clear hx hbr
    cases hp : p x with
    | true =>
      have HTK := hide (all_step HT.out HX.out hp)
      rw [hp] at HC
      go_wp2_with (first | (go_at_call 111; go_in))
      refine (HC.out _ (HBR.out.alloc HBR.out.size _)).mono ?_
      rintro e w3 ⟨rfl, hb3⟩
      have HB3 := hide ((HBR.out.alloc HBR.out.size (.cells #[u0, u1, u2] 68)).trans (hb3.mono (HBR.out.alloc HBR.out.size _).size))
      clear hb3 HC
      go_wp2_with fail
      go_roundw
      case rel => exact ⟨k + 1, by omega, by go_num, HTK.out, HB3.out⟩
      case measure => simp [intOf]; omega
    | false =>
      have HNO := hide (all_stop HX.out hp)
      rw [hp] at HC
      go_wp2_with (first | (go_at_call 111; go_in))
      refine (HC.out _ (HBR.out.alloc HBR.out.size _)).mono ?_
      rintro e w3 ⟨rfl, hb3⟩
      have HB3 := hide ((HBR.out.alloc HBR.out.size (.cells #[u0, u1, u2] 68)).trans (hb3.mono (HBR.out.alloc HBR.out.size _).size))
      clear hb3 HC
      go_wp2_with fail
      go_ret
      exact ⟨_, rfl, .inr ⟨by omega, HNO.out⟩, HB3.out⟩
set_option maxRecDepth 100000 in
theorem all_cause (v : Value) (l : List CauseD) (p : CauseD → Bool) (W : World) (hv : Hid (DAt W (fun _ => True) v (.row 3 (l.map CauseD.cells)))) (hl : l.length ≤ 140737488355328) (hc : Hid (∀ x ∈ l, ∀ us w', Below W.heap.size W w' → DCells w' (fun _ => True) us (CauseD.cells x) → Calls Tryz.prog 33 #[.agg us.toArray] w' fun e w'' => e = .returned (.bool (p x)) ∧ Below w'.heap.size w' w'')) :
    Calls Tryz.prog 32 #[v, .func (.func 33) #[] #[]] W fun e w' => e = .returned (.bool (l.all p)) ∧ Below W.heap.size W w' := by
  have hmf : ∀ (fn : Fn) (first cap : Array Value) (w : World), (Instr.makeFunc fn first cap).run Tryz.prog w = .ok (.func fn first cap) w := fun _ _ _ _ => rfl
  have HB := hide ((Below.refl W.heap.size W).alloc (Nat.le_refl _) (.cells #[.func (.func 33) #[] #[]] 107))
  have HI := hide (idx_cause W.heap.size v l p (W.alloc (.cells #[.func (.func 33) #[] #[]] 107)) (hide (hv.out.later HB.out)) hl (by rw [cell_of_row _ _ 0 _ _ _ (heap_alloc_new W _)]; rfl) (hide (fun x hx us w' hb hd => hc.out x hx us w' (HB.out.trans (hb.mono HB.out.size)) hd)))
  go_enter Tryz.func32, Tryz.ntmps32
  go_wp2_with (first | (go_at_call 110; go_in))
  refine HI.out.mono ?_
  rintro e w2 ⟨r, rfl, hr, hb⟩
  have HB2 := hide (HB.out.trans (hb.mono HB.out.size))
  have HR := hide (show l.all p = !decide (0 ≤ r) by rcases hr with ⟨h1, h2⟩ | ⟨h1, h2⟩ <;> simp [h2] <;> omega)
  clear hb hr HI
  go_wp2_with fail
  go_ret
  exact ⟨by rw [HR.out]; rfl, HB2.out⟩
set_option maxRecDepth 100000 in
set_option maxHeartbeats 4000000 in
theorem idx_ver (bx : Nat) (v : Value) (l : List VerD) (p : VerD → Bool) (W : World) (hv : Hid (DAt W (fun _ => True) v (.row 4 (l.map VerD.cells)))) (hl : l.length ≤ 140737488355328) (hx0 : W.cell? ⟨bx, 0, none⟩ = some (.func (.func 35) #[] #[])) (hc : Hid (∀ x ∈ l, ∀ us w', Below W.heap.size W w' → DCells w' (fun _ => True) us (VerD.cells x) → Calls Tryz.prog 35 #[.agg us.toArray] w' fun e w'' => e = .returned (.bool (p x)) ∧ Below w'.heap.size w' w'')) :
    Calls Tryz.prog 163 #[v, .func (.func 115) #[] #[.pointer (some ⟨bx, 0, none⟩)]] W fun e w' => ∃ r : Int, e = .returned (.int .i64 r) ∧ (r < 0 ∧ l.all p = true ∨ 0 ≤ r ∧ l.all p = false) ∧ Below W.heap.size W w' := by
  obtain ⟨A, c, rfl, hA⟩ := hv.out.slice
  have HA := hide hA
  clear hA hv
  rw [List.length_map]
  have hbx := cell_lt hx0
  go_enter Tryz.func163, Tryz.ntmps163
  go_wp2_with fail
  go_loopw [8] (fun v8 wr => ∃ k : Nat, k ≤ l.length ∧ v8 = .int .i64 k ∧ (l.take k).all p = true ∧ Below W.heap.size W wr) (fun v8 _ => l.length - (intOf v8).toNat)
  case atStart => exact ⟨0, by omega, rfl, by simp, Below.refl _ _⟩
  case round =>
    obtain ⟨k, hk, rfl, ht, hbr⟩ := hrel
    have HT := hide ht
    have HBR := hide hbr
    clear ht
    by_cases hlt : k < l.length
    rotate_left
    · obtain rfl : k = l.length := by omega
      rw [List.take_length] at HT
      clear hbr hlt
      go_wp2_with fail
      go_ret
      exact ⟨_, rfl, .inl ⟨by decide, HT.out⟩, HBR.out⟩
    obtain ⟨x, hx⟩ : ∃ x, l[k]? = some x := ⟨_, List.getElem?_eq_getElem hlt⟩
    obtain ⟨b, off, rfl, hb, hca⟩ := HA.out.at_ hx
    obtain ⟨u0, c0, g0⟩ := hca 0 _ rfl
    obtain ⟨u1, c1, g1⟩ := hca 1 _ rfl
    obtain ⟨u2, c2, g2⟩ := hca 2 _ rfl
    obtain ⟨u3, c3, g3⟩ := hca 3 _ rfl
    clear hca
    have c0 := (HBR.out.cell (p := ⟨b, off + k * 4, none⟩) hb).trans c0
    have c1 := (HBR.out.cell (p := ⟨b, off + k * 4 + 1, none⟩) hb).trans c1
    have c2 := (HBR.out.cell (p := ⟨b, off + k * 4 + 2, none⟩) hb).trans c2
    have c3 := (HBR.out.cell (p := ⟨b, off + k * 4 + 3, none⟩) hb).trans c3
    have hbxw := (hbr.cell hbx).trans hx0
    have lbx : bx < wr.heap.size := Nat.lt_of_lt_of_le hbx hbr.size
    have HC := hide (fun w' (hbw : Below W.heap.size W w') => hc.out x (List.mem_of_getElem? hx) [u0, u1, u2, u3] w' hbw (DCells.cons (g0.later hbw) (DCells.cons (g1.later hbw) (DCells.cons (g2.later hbw) (DCells.cons (g3.later hbw) DCells.nil)))))
    have k0 : (0 : Int) ≤ (k : Int) ∧ (k : Int) < ((l.length : Nat) : Int) := by omega
    have HX := hide hx
    clear hx hbr
    cases hp : p x with
    | true =>
      have HTK := hide (all_step HT.out HX.out hp)
      rw [hp] at HC
      go_wp2_with (first | (go_at_call 115; go_in))
      refine (HC.out _ (HBR.out.alloc HBR.out.size _)).mono ?_
      rintro e w3 ⟨rfl, hb3⟩
      have HB3 := hide ((HBR.out.alloc HBR.out.size (.cells #[u0, u1, u2, u3] 110)).trans (hb3.mono (HBR.out.alloc HBR.out.size _).size))
      clear hb3 HC
      go_wp2_with fail
      go_roundw
      case rel => exact ⟨k + 1, by omega, by go_num, HTK.out, HB3.out⟩
      case measure => simp [intOf]; omega
    | false =>
      have HNO := hide (all_stop HX.out hp)
      rw [hp] at HC
      go_wp2_with (first | (go_at_call 115; go_in))
      refine (HC.out _ (HBR.out.alloc HBR.out.size _)).mono ?_
      rintro e w3 ⟨rfl, hb3⟩
      have HB3 := hide ((HBR.out.alloc HBR.out.size (.cells #[u0, u1, u2, u3] 110)).trans (hb3.mono (HBR.out.alloc HBR.out.size _).size))
      clear hb3 HC
      go_wp2_with fail
      go_ret
      exact ⟨_, rfl, .inr ⟨by omega, HNO.out⟩, HB3.out⟩
set_option maxRecDepth 100000 in
theorem all_ver (v : Value) (l : List VerD) (p : VerD → Bool) (W : World) (hv : Hid (DAt W (fun _ => True) v (.row 4 (l.map VerD.cells)))) (hl : l.length ≤ 140737488355328) (hc : Hid (∀ x ∈ l, ∀ us w', Below W.heap.size W w' → DCells w' (fun _ => True) us (VerD.cells x) → Calls Tryz.prog 35 #[.agg us.toArray] w' fun e w'' => e = .returned (.bool (p x)) ∧ Below w'.heap.size w' w'')) :
    Calls Tryz.prog 34 #[v, .func (.func 35) #[] #[]] W fun e w' => e = .returned (.bool (l.all p)) ∧ Below W.heap.size W w' := by
  have hmf : ∀ (fn : Fn) (first cap : Array Value) (w : World), (Instr.makeFunc fn first cap).run Tryz.prog w = .ok (.func fn first cap) w := fun _ _ _ _ => rfl
  have HB := hide ((Below.refl W.heap.size W).alloc (Nat.le_refl _) (.cells #[.func (.func 35) #[] #[]] 111))
  have HI := hide (idx_ver W.heap.size v l p (W.alloc (.cells #[.func (.func 35) #[] #[]] 111)) (hide (hv.out.later HB.out)) hl (by rw [cell_of_row _ _ 0 _ _ _ (heap_alloc_new W _)]; rfl) (hide (fun x hx us w' hb hd => hc.out x hx us w' (HB.out.trans (hb.mono HB.out.size)) hd)))
  go_enter Tryz.func34, Tryz.ntmps34
  go_wp2_with (first | (go_at_call 114; go_in))
  refine HI.out.mono ?_
  rintro e w2 ⟨r, rfl, hr, hb⟩
  have HB2 := hide (HB.out.trans (hb.mono HB.out.size))
  have HR := hide (show l.all p = !decide (0 ≤ r) by rcases hr with ⟨h1, h2⟩ | ⟨h1, h2⟩ <;> simp [h2] <;> omega)
  clear hb hr HI
  go_wp2_with fail
  go_ret
  exact ⟨by rw [HR.out]; rfl, HB2.out⟩
set_option maxRecDepth 100000 in
set_option maxHeartbeats 4000000 in
theorem idx_part (bx : Nat) (v : Value) (l : List PartD) (p : PartD → Bool) (W : World) (hv : Hid (DAt W (fun _ => True) v (.row 10 (l.map PartD.cells)))) (hl : l.length ≤ 140737488355328) (hx0 : W.cell? ⟨bx, 0, none⟩ = some (.func (.func 93) #[] #[])) (hc : Hid (∀ x ∈ l, ∀ us w', Below W.heap.size W w' → DCells w' (fun _ => True) us (PartD.cells x) → Calls Tryz.prog 93 #[.agg us.toArray] w' fun e w'' => e = .returned (.bool (p x)) ∧ Below w'.heap.size w' w'')) :
    Calls Tryz.prog 184 #[v, .func (.func 145) #[] #[.pointer (some ⟨bx, 0, none⟩)]] W fun e w' => ∃ r : Int, e = .returned (.int .i64 r) ∧ (r < 0 ∧ l.all p = true ∨ 0 ≤ r ∧ l.all p = false) ∧ Below W.heap.size W w' := by
  obtain ⟨A, c, rfl, hA⟩ := hv.out.slice
  have HA := hide hA
  clear hA hv
  rw [List.length_map]
  have hbx := cell_lt hx0
  go_enter Tryz.func184, Tryz.ntmps184
  go_wp2_with fail
  go_loopw [8] (fun v8 wr => ∃ k : Nat, k ≤ l.length ∧ v8 = .int .i64 k ∧ (l.take k).all p = true ∧ Below W.heap.size W wr) (fun v8 _ => l.length - (intOf v8).toNat)
  case atStart => exact ⟨0, by omega, rfl, by simp, Below.refl _ _⟩
  case round =>
    obtain ⟨k, hk, rfl, ht, hbr⟩ := hrel
    have HT := hide ht
    have HBR := hide hbr
    clear ht
    by_cases hlt : k < l.length
    rotate_left
    · obtain rfl : k = l.length := by omega
      rw [List.take_length] at HT
      clear hbr hlt
      go_wp2_with fail
      go_ret
      exact ⟨_, rfl, .inl ⟨by decide, HT.out⟩, HBR.out⟩
    obtain ⟨x, hx⟩ : ∃ x, l[k]? = some x := ⟨_, List.getElem?_eq_getElem hlt⟩
    obtain ⟨b, off, rfl, hb, hca⟩ := HA.out.at_ hx
    obtain ⟨u0, c0, g0⟩ := hca 0 _ rfl
    obtain ⟨u1, c1, g1⟩ := hca 1 _ rfl
    obtain ⟨u2, c2, g2⟩ := hca 2 _ rfl
    obtain ⟨u3, c3, g3⟩ := hca 3 _ rfl
    obtain ⟨u4, c4, g4⟩ := hca 4 _ rfl
    obtain ⟨u5, c5, g5⟩ := hca 5 _ rfl
    obtain ⟨u6, c6, g6⟩ := hca 6 _ rfl
    obtain ⟨u7, c7, g7⟩ := hca 7 _ rfl
    obtain ⟨u8, c8, g8⟩ := hca 8 _ rfl
    obtain ⟨u9, c9, g9⟩ := hca 9 _ rfl
    clear hca
    have c0 := (HBR.out.cell (p := ⟨b, off + k * 10, none⟩) hb).trans c0
    have c1 := (HBR.out.cell (p := ⟨b, off + k * 10 + 1, none⟩) hb).trans c1
    have c2 := (HBR.out.cell (p := ⟨b, off + k * 10 + 2, none⟩) hb).trans c2
    have c3 := (HBR.out.cell (p := ⟨b, off + k * 10 + 3, none⟩) hb).trans c3
    have c4 := (HBR.out.cell (p := ⟨b, off + k * 10 + 4, none⟩) hb).trans c4
    have c5 := (HBR.out.cell (p := ⟨b, off + k * 10 + 5, none⟩) hb).trans c5
    have c6 := (HBR.out.cell (p := ⟨b, off + k * 10 + 6, none⟩) hb).trans c6
    have c7 := (HBR.out.cell (p := ⟨b, off + k * 10 + 7, none⟩) hb).trans c7
    have c8 := (HBR.out.cell (p := ⟨b, off + k * 10 + 8, none⟩) hb).trans c8
    have c9 := (HBR.out.cell (p := ⟨b, off + k * 10 + 9, none⟩) hb).trans c9
    have hbxw := (hbr.cell hbx).trans hx0
    have lbx : bx < wr.heap.size := Nat.lt_of_lt_of_le hbx hbr.size
    have HC := hide (fun w' (hbw : Below W.heap.size W w') => hc.out x (List.mem_of_getElem? hx) [u0, u1, u2, u3, u4, u5, u6, u7, u8, u9] w' hbw (DCells.cons (g0.later hbw) (DCells.cons (g1.later hbw) (DCells.cons (g2.later hbw) (DCells.cons (g3.later hbw) (DCells.cons (g4.later hbw) (DCells.cons (g5.later hbw) (DCells.cons (g6.later hbw) (DCells.cons (g7.later hbw) (DCells.cons (g8.later hbw) (DCells.cons (g9.later hbw) DCells.nil)))))))))))
    have k0 : (0 : Int) ≤ (k : Int) ∧ (k : Int) < ((l.length : Nat) : Int) := by omega
    have HX := hide hx
    clear hx hbr
    cases hp : p x with
    | true =>
      have HTK := hide (all_step HT.out HX.out hp)
      rw [hp] at HC
      go_wp2_with (first | (go_at_call 145; go_in))
      refine (HC.out _ (HBR.out.alloc HBR.out.size _)).mono ?_
      rintro e w3 ⟨rfl, hb3⟩
      have HB3 := hide ((HBR.out.alloc HBR.out.size (.cells #[u0, u1, u2, u3, u4, u5, u6, u7, u8, u9] 36)).trans (hb3.mono (HBR.out.alloc HBR.out.size _).size))
      clear hb3 HC
      go_wp2_with fail
      go_roundw
      case rel => exact ⟨k + 1, by omega, by go_num, HTK.out, HB3.out⟩
      case measure => simp [intOf]; omega
    | false =>
      have HNO := hide (all_stop HX.out hp)
      rw [hp] at HC
      go_wp2_with (first | (go_at_call 145; go_in))
      refine (HC.out _ (HBR.out.alloc HBR.out.size _)).mono ?_
      rintro e w3 ⟨rfl, hb3⟩
      have HB3 := hide ((HBR.out.alloc HBR.out.size (.cells #[u0, u1, u2, u3, u4, u5, u6, u7, u8, u9] 36)).trans (hb3.mono (HBR.out.alloc HBR.out.size _).size))
      clear hb3 HC
      go_wp2_with fail
      go_ret
      exact ⟨_, rfl, .inr ⟨by omega, HNO.out⟩, HB3.out⟩
set_option maxRecDepth 100000 in
theorem all_part (v : Value) (l : List PartD) (p : PartD → Bool) (W : World) (hv : Hid (DAt W (fun _ => True) v (.row 10 (l.map PartD.cells)))) (hl : l.length ≤ 140737488355328) (hc : Hid (∀ x ∈ l, ∀ us w', Below W.heap.size W w' → DCells w' (fun _ => True) us (PartD.cells x) → Calls Tryz.prog 93 #[.agg us.toArray] w' fun e w'' => e = .returned (.bool (p x)) ∧ Below w'.heap.size w' w'')) :
    Calls Tryz.prog 92 #[v, .func (.func 93) #[] #[]] W fun e w' => e = .returned (.bool (l.all p)) ∧ Below W.heap.size W w' := by
  have hmf : ∀ (fn : Fn) (first cap : Array Value) (w : World), (Instr.makeFunc fn first cap).run Tryz.prog w = .ok (.func fn first cap) w := fun _ _ _ _ => rfl
  have HB := hide ((Below.refl W.heap.size W).alloc (Nat.le_refl _) (.cells #[.func (.func 93) #[] #[]] 184))
  have HI := hide (idx_part W.heap.size v l p (W.alloc (.cells #[.func (.func 93) #[] #[]] 184)) (hide (hv.out.later HB.out)) hl (by rw [cell_of_row _ _ 0 _ _ _ (heap_alloc_new W _)]; rfl) (hide (fun x hx us w' hb hd => hc.out x hx us w' (HB.out.trans (hb.mono HB.out.size)) hd)))
  go_enter Tryz.func92, Tryz.ntmps92
  go_wp2_with (first | (go_at_call 144; go_in))
  refine HI.out.mono ?_
  rintro e w2 ⟨r, rfl, hr, hb⟩
  have HB2 := hide (HB.out.trans (hb.mono HB.out.size))
  have HR := hide (show l.all p = !decide (0 ≤ r) by rcases hr with ⟨h1, h2⟩ | ⟨h1, h2⟩ <;> simp [h2] <;> omega)
  clear hb hr HI
  go_wp2_with fail
  go_ret
  exact ⟨by rw [HR.out]; rfl, HB2.out⟩
set_option maxRecDepth 100000 in
set_option maxHeartbeats 4000000 in
theorem idx_port (bx : Nat) (v : Value) (l : List PortD) (p : PortD → Bool) (W : World) (hv : Hid (DAt W (fun _ => True) v (.row 6 (l.map PortD.cells)))) (hl : l.length ≤ 140737488355328) (hx0 : W.cell? ⟨bx, 0, none⟩ = some (.func (.func 147) #[] #[])) (hc : Hid (∀ x ∈ l, ∀ us w', Below W.heap.size W w' → DCells w' (fun _ => True) us (PortD.cells x) → Calls Tryz.prog 147 #[.agg us.toArray] w' fun e w'' => e = .returned (.bool (p x)) ∧ Below w'.heap.size w' w'')) :
    Calls Tryz.prog 208 #[v, .func (.func 186) #[] #[.pointer (some ⟨bx, 0, none⟩)]] W fun e w' => ∃ r : Int, e = .returned (.int .i64 r) ∧ (r < 0 ∧ l.all p = true ∨ 0 ≤ r ∧ l.all p = false) ∧ Below W.heap.size W w' := by
  obtain ⟨A, c, rfl, hA⟩ := hv.out.slice
  have HA := hide hA
  clear hA hv
  rw [List.length_map]
  have hbx := cell_lt hx0
  go_enter Tryz.func208, Tryz.ntmps208
  go_wp2_with fail
  go_loopw [8] (fun v8 wr => ∃ k : Nat, k ≤ l.length ∧ v8 = .int .i64 k ∧ (l.take k).all p = true ∧ Below W.heap.size W wr) (fun v8 _ => l.length - (intOf v8).toNat)
  case atStart => exact ⟨0, by omega, rfl, by simp, Below.refl _ _⟩
  case round =>
    obtain ⟨k, hk, rfl, ht, hbr⟩ := hrel
    have HT := hide ht
    have HBR := hide hbr
    clear ht
    by_cases hlt : k < l.length
    rotate_left
    · obtain rfl : k = l.length := by omega
      rw [List.take_length] at HT
      clear hbr hlt
      go_wp2_with fail
      go_ret
      exact ⟨_, rfl, .inl ⟨by decide, HT.out⟩, HBR.out⟩
    obtain ⟨x, hx⟩ : ∃ x, l[k]? = some x := ⟨_, List.getElem?_eq_getElem hlt⟩
    obtain ⟨b, off, rfl, hb, hca⟩ := HA.out.at_ hx
    obtain ⟨u0, c0, g0⟩ := hca 0 _ rfl
    obtain ⟨u1, c1, g1⟩ := hca 1 _ rfl
    obtain ⟨u2, c2, g2⟩ := hca 2 _ rfl
    obtain ⟨u3, c3, g3⟩ := hca 3 _ rfl
    obtain ⟨u4, c4, g4⟩ := hca 4 _ rfl
    obtain ⟨u5, c5, g5⟩ := hca 5 _ rfl
    clear hca
    have c0 := (HBR.out.cell (p := ⟨b, off + k * 6, none⟩) hb).trans c0
    have c1 := (HBR.out.cell (p := ⟨b, off + k * 6 + 1, none⟩) hb).trans c1
    have c2 := (HBR.out.cell (p := ⟨b, off + k * 6 + 2, none⟩) hb).trans c2
    have c3 := (HBR.out.cell (p := ⟨b, off + k * 6 + 3, none⟩) hb).trans c3
    have c4 := (HBR.out.cell (p := ⟨b, off + k * 6 + 4, none⟩) hb).trans c4
    have c5 := (HBR.out.cell (p := ⟨b, off + k * 6 + 5, none⟩) hb).trans c5
    have hbxw := (hbr.cell hbx).trans hx0
    have lbx : bx < wr.heap.size := Nat.lt_of_lt_of_le hbx hbr.size
    have HC := hide (fun w' (hbw : Below W.heap.size W w') => hc.out x (List.mem_of_getElem? hx) [u0, u1, u2, u3, u4, u5] w' hbw (DCells.cons (g0.later hbw) (DCells.cons (g1.later hbw) (DCells.cons (g2.later hbw) (DCells.cons (g3.later hbw) (DCells.cons (g4.later hbw) (DCells.cons (g5.later hbw) DCells.nil)))))))
    have k0 : (0 : Int) ≤ (k : Int) ∧ (k : Int) < ((l.length : Nat) : Int) := by omega
    have HX := hide hx
    clear hx hbr
    cases hp : p x with
    | true =>
      have HTK := hide (all_step HT.out HX.out hp)
      rw [hp] at HC
      go_wp2_with (first | (go_at_call 186; go_in))
      refine (HC.out _ (HBR.out.alloc HBR.out.size _)).mono ?_
      rintro e w3 ⟨rfl, hb3⟩
      have HB3 := hide ((HBR.out.alloc HBR.out.size (.cells #[u0, u1, u2, u3, u4, u5] 59)).trans (hb3.mono (HBR.out.alloc HBR.out.size _).size))
      clear hb3 HC
      go_wp2_with fail
      go_roundw
      case rel => exact ⟨k + 1, by omega, by go_num, HTK.out, HB3.out⟩
      case measure => simp [intOf]; omega
    | false =>
      have HNO := hide (all_stop HX.out hp)
      rw [hp] at HC
      go_wp2_with (first | (go_at_call 186; go_in))
      refine (HC.out _ (HBR.out.alloc HBR.out.size _)).mono ?_
      rintro e w3 ⟨rfl, hb3⟩
      have HB3 := hide ((HBR.out.alloc HBR.out.size (.cells #[u0, u1, u2, u3, u4, u5] 59)).trans (hb3.mono (HBR.out.alloc HBR.out.size _).size))
      clear hb3 HC
      go_wp2_with fail
      go_ret
      exact ⟨_, rfl, .inr ⟨by omega, HNO.out⟩, HB3.out⟩
set_option maxRecDepth 100000 in
theorem all_port (v : Value) (l : List PortD) (p : PortD → Bool) (W : World) (hv : Hid (DAt W (fun _ => True) v (.row 6 (l.map PortD.cells)))) (hl : l.length ≤ 140737488355328) (hc : Hid (∀ x ∈ l, ∀ us w', Below W.heap.size W w' → DCells w' (fun _ => True) us (PortD.cells x) → Calls Tryz.prog 147 #[.agg us.toArray] w' fun e w'' => e = .returned (.bool (p x)) ∧ Below w'.heap.size w' w'')) :
    Calls Tryz.prog 146 #[v, .func (.func 147) #[] #[]] W fun e w' => e = .returned (.bool (l.all p)) ∧ Below W.heap.size W w' := by
  have hmf : ∀ (fn : Fn) (first cap : Array Value) (w : World), (Instr.makeFunc fn first cap).run Tryz.prog w = .ok (.func fn first cap) w := fun _ _ _ _ => rfl
  have HB := hide ((Below.refl W.heap.size W).alloc (Nat.le_refl _) (.cells #[.func (.func 147) #[] #[]] 213))
  have HI := hide (idx_port W.heap.size v l p (W.alloc (.cells #[.func (.func 147) #[] #[]] 213)) (hide (hv.out.later HB.out)) hl (by rw [cell_of_row _ _ 0 _ _ _ (heap_alloc_new W _)]; rfl) (hide (fun x hx us w' hb hd => hc.out x hx us w' (HB.out.trans (hb.mono HB.out.size)) hd)))
  go_enter Tryz.func146, Tryz.ntmps146
  go_wp2_with (first | (go_at_call 185; go_in))
  refine HI.out.mono ?_
  rintro e w2 ⟨r, rfl, hr, hb⟩
  have HB2 := hide (HB.out.trans (hb.mono HB.out.size))
  have HR := hide (show l.all p = !decide (0 ≤ r) by rcases hr with ⟨h1, h2⟩ | ⟨h1, h2⟩ <;> simp [h2] <;> omega)
  clear hb hr HI
  go_wp2_with fail
  go_ret
  exact ⟨by rw [HR.out]; rfl, HB2.out⟩
set_option maxRecDepth 100000 in
set_option maxHeartbeats 4000000 in
theorem idx_proc (bx : Nat) (v : Value) (l : List ProcD) (p : ProcD → Bool) (W : World) (hv : Hid (DAt W (fun _ => True) v (.row 5 (l.map ProcD.cells)))) (hl : l.length ≤ 140737488355328) (hx0 : W.cell? ⟨bx, 0, none⟩ = some (.func (.func 149) #[] #[])) (hc : Hid (∀ x ∈ l, ∀ us w', Below W.heap.size W w' → DCells w' (fun _ => True) us (ProcD.cells x) → Calls Tryz.prog 149 #[.agg us.toArray] w' fun e w'' => e = .returned (.bool (p x)) ∧ Below w'.heap.size w' w'')) :
    Calls Tryz.prog 209 #[v, .func (.func 188) #[] #[.pointer (some ⟨bx, 0, none⟩)]] W fun e w' => ∃ r : Int, e = .returned (.int .i64 r) ∧ (r < 0 ∧ l.all p = true ∨ 0 ≤ r ∧ l.all p = false) ∧ Below W.heap.size W w' := by
  obtain ⟨A, c, rfl, hA⟩ := hv.out.slice
  have HA := hide hA
  clear hA hv
  rw [List.length_map]
  have hbx := cell_lt hx0
  go_enter Tryz.func209, Tryz.ntmps209
  go_wp2_with fail
  go_loopw [8] (fun v8 wr => ∃ k : Nat, k ≤ l.length ∧ v8 = .int .i64 k ∧ (l.take k).all p = true ∧ Below W.heap.size W wr) (fun v8 _ => l.length - (intOf v8).toNat)
  case atStart => exact ⟨0, by omega, rfl, by simp, Below.refl _ _⟩
  case round =>
    obtain ⟨k, hk, rfl, ht, hbr⟩ := hrel
    have HT := hide ht
    have HBR := hide hbr
    clear ht
    by_cases hlt : k < l.length
    rotate_left
    · obtain rfl : k = l.length := by omega
      rw [List.take_length] at HT
      clear hbr hlt
      go_wp2_with fail
      go_ret
      exact ⟨_, rfl, .inl ⟨by decide, HT.out⟩, HBR.out⟩
    obtain ⟨x, hx⟩ : ∃ x, l[k]? = some x := ⟨_, List.getElem?_eq_getElem hlt⟩
    obtain ⟨b, off, rfl, hb, hca⟩ := HA.out.at_ hx
    obtain ⟨u0, c0, g0⟩ := hca 0 _ rfl
    obtain ⟨u1, c1, g1⟩ := hca 1 _ rfl
    obtain ⟨u2, c2, g2⟩ := hca 2 _ rfl
    obtain ⟨u3, c3, g3⟩ := hca 3 _ rfl
    obtain ⟨u4, c4, g4⟩ := hca 4 _ rfl
    clear hca
    have c0 := (HBR.out.cell (p := ⟨b, off + k * 5, none⟩) hb).trans c0
    have c1 := (HBR.out.cell (p := ⟨b, off + k * 5 + 1, none⟩) hb).trans c1
    have c2 := (HBR.out.cell (p := ⟨b, off + k * 5 + 2, none⟩) hb).trans c2
    have c3 := (HBR.out.cell (p := ⟨b, off + k * 5 + 3, none⟩) hb).trans c3
    have c4 := (HBR.out.cell (p := ⟨b, off + k * 5 + 4, none⟩) hb).trans c4
    have hbxw := (hbr.cell hbx).trans hx0
    have lbx : bx < wr.heap.size := Nat.lt_of_lt_of_le hbx hbr.size
    have HC := hide (fun w' (hbw : Below W.heap.size W w') => hc.out x (List.mem_of_getElem? hx) [u0, u1, u2, u3, u4] w' hbw (DCells.cons (g0.later hbw) (DCells.cons (g1.later hbw) (DCells.cons (g2.later hbw) (DCells.cons (g3.later hbw) (DCells.cons (g4.later hbw) DCells.nil))))))
    have k0 : (0 : Int) ≤ (k : Int) ∧ (k : Int) < ((l.length : Nat) : Int) := by omega
    have HX := hide hx
    clear hx hbr
    cases hp : p x with
    | true =>
      have HTK := hide (all_step HT.out HX.out hp)
      rw [hp] at HC
      go_wp2_with (first | (go_at_call 188; go_in))
      refine (HC.out _ (HBR.out.alloc HBR.out.size _)).mono ?_
      rintro e w3 ⟨rfl, hb3⟩
      have HB3 := hide ((HBR.out.alloc HBR.out.size (.cells #[u0, u1, u2, u3, u4] 31)).trans (hb3.mono (HBR.out.alloc HBR.out.size _).size))
      clear hb3 HC
      go_wp2_with fail
      go_roundw
      case rel => exact ⟨k + 1, by omega, by go_num, HTK.out, HB3.out⟩
      case measure => simp [intOf]; omega
    | false =>
      have HNO := hide (all_stop HX.out hp)
      rw [hp] at HC
      go_wp2_with (first | (go_at_call 188; go_in))
      refine (HC.out _ (HBR.out.alloc HBR.out.size _)).mono ?_
      rintro e w3 ⟨rfl, hb3⟩
      have HB3 := hide ((HBR.out.alloc HBR.out.size (.cells #[u0, u1, u2, u3, u4] 31)).trans (hb3.mono (HBR.out.alloc HBR.out.size _).size))
      clear hb3 HC
      go_wp2_with fail
      go_ret
      exact ⟨_, rfl, .inr ⟨by omega, HNO.out⟩, HB3.out⟩
set_option maxRecDepth 100000 in
theorem all_proc (v : Value) (l : List ProcD) (p : ProcD → Bool) (W : World) (hv : Hid (DAt W (fun _ => True) v (.row 5 (l.map ProcD.cells)))) (hl : l.length ≤ 140737488355328) (hc : Hid (∀ x ∈ l, ∀ us w', Below W.heap.size W w' → DCells w' (fun _ => True) us (ProcD.cells x) → Calls Tryz.prog 149 #[.agg us.toArray] w' fun e w'' => e = .returned (.bool (p x)) ∧ Below w'.heap.size w' w'')) :
    Calls Tryz.prog 148 #[v, .func (.func 149) #[] #[]] W fun e w' => e = .returned (.bool (l.all p)) ∧ Below W.heap.size W w' := by
  have hmf : ∀ (fn : Fn) (first cap : Array Value) (w : World), (Instr.makeFunc fn first cap).run Tryz.prog w = .ok (.func fn first cap) w := fun _ _ _ _ => rfl
  have HB := hide ((Below.refl W.heap.size W).alloc (Nat.le_refl _) (.cells #[.func (.func 149) #[] #[]] 215))
  have HI := hide (idx_proc W.heap.size v l p (W.alloc (.cells #[.func (.func 149) #[] #[]] 215)) (hide (hv.out.later HB.out)) hl (by rw [cell_of_row _ _ 0 _ _ _ (heap_alloc_new W _)]; rfl) (hide (fun x hx us w' hb hd => hc.out x hx us w' (HB.out.trans (hb.mono HB.out.size)) hd)))
  go_enter Tryz.func148, Tryz.ntmps148
  go_wp2_with (first | (go_at_call 187; go_in))
  refine HI.out.mono ?_
  rintro e w2 ⟨r, rfl, hr, hb⟩
  have HB2 := hide (HB.out.trans (hb.mono HB.out.size))
  have HR := hide (show l.all p = !decide (0 ≤ r) by rcases hr with ⟨h1, h2⟩ | ⟨h1, h2⟩ <;> simp [h2] <;> omega)
  clear hb hr HI
  go_wp2_with fail
  go_ret
  exact ⟨by rw [HR.out]; rfl, HB2.out⟩
set_option maxRecDepth 100000 in
set_option maxHeartbeats 4000000 in
theorem idx_ins (bx : Nat) (v : Value) (l : List InsD) (p : InsD → Bool) (W : World) (hv : Hid (DAt W (fun _ => True) v (.row 4 (l.map InsD.cells)))) (hl : l.length ≤ 140737488355328) (hx0 : W.cell? ⟨bx, 0, none⟩ = some (.func (.func 16) #[] #[])) (hc : Hid (∀ x ∈ l, ∀ us w', Below W.heap.size W w' → DCells w' (fun _ => True) us (InsD.cells x) → Calls Tryz.prog 16 #[.agg us.toArray] w' fun e w'' => e = .returned (.bool (p x)) ∧ Below w'.heap.size w' w'')) :
    Calls Tryz.prog 136 #[v, .func (.func 80) #[] #[.pointer (some ⟨bx, 0, none⟩)]] W fun e w' => ∃ r : Int, e = .returned (.int .i64 r) ∧ (r < 0 ∧ l.all p = true ∨ 0 ≤ r ∧ l.all p = false) ∧ Below W.heap.size W w' := by
  obtain ⟨A, c, rfl, hA⟩ := hv.out.slice
  have HA := hide hA
  clear hA hv
  rw [List.length_map]
  have hbx := cell_lt hx0
  go_enter Tryz.func136, Tryz.ntmps136
  go_wp2_with fail
  go_loopw [8] (fun v8 wr => ∃ k : Nat, k ≤ l.length ∧ v8 = .int .i64 k ∧ (l.take k).all p = true ∧ Below W.heap.size W wr) (fun v8 _ => l.length - (intOf v8).toNat)
  case atStart => exact ⟨0, by omega, rfl, by simp, Below.refl _ _⟩
  case round =>
    obtain ⟨k, hk, rfl, ht, hbr⟩ := hrel
    have HT := hide ht
    have HBR := hide hbr
    clear ht
    by_cases hlt : k < l.length
    rotate_left
    · obtain rfl : k = l.length := by omega
      rw [List.take_length] at HT
      clear hbr hlt
      go_wp2_with fail
      go_ret
      exact ⟨_, rfl, .inl ⟨by decide, HT.out⟩, HBR.out⟩
    obtain ⟨x, hx⟩ : ∃ x, l[k]? = some x := ⟨_, List.getElem?_eq_getElem hlt⟩
    obtain ⟨b, off, rfl, hb, hca⟩ := HA.out.at_ hx
    obtain ⟨u0, c0, g0⟩ := hca 0 _ rfl
    obtain ⟨u1, c1, g1⟩ := hca 1 _ rfl
    obtain ⟨u2, c2, g2⟩ := hca 2 _ rfl
    obtain ⟨u3, c3, g3⟩ := hca 3 _ rfl
    clear hca
    have c0 := (HBR.out.cell (p := ⟨b, off + k * 4, none⟩) hb).trans c0
    have c1 := (HBR.out.cell (p := ⟨b, off + k * 4 + 1, none⟩) hb).trans c1
    have c2 := (HBR.out.cell (p := ⟨b, off + k * 4 + 2, none⟩) hb).trans c2
    have c3 := (HBR.out.cell (p := ⟨b, off + k * 4 + 3, none⟩) hb).trans c3
    have hbxw := (hbr.cell hbx).trans hx0
    have lbx : bx < wr.heap.size := Nat.lt_of_lt_of_le hbx hbr.size
    have HC := hide (fun w' (hbw : Below W.heap.size W w') => hc.out x (List.mem_of_getElem? hx) [u0, u1, u2, u3] w' hbw (DCells.cons (g0.later hbw) (DCells.cons (g1.later hbw) (DCells.cons (g2.later hbw) (DCells.cons (g3.later hbw) DCells.nil)))))
    have k0 : (0 : Int) ≤ (k : Int) ∧ (k : Int) < ((l.length : Nat) : Int) := by omega
    have HX := hide hx
    clear hx hbr
    cases hp : p x with
    | true =>
      have HTK := hide (all_step HT.out HX.out hp)
      rw [hp] at HC
      go_wp2_with (first | (go_at_call 80; go_in))
      refine (HC.out _ (HBR.out.alloc HBR.out.size _)).mono ?_
      rintro e w3 ⟨rfl, hb3⟩
      have HB3 := hide ((HBR.out.alloc HBR.out.size (.cells #[u0, u1, u2, u3] 70)).trans (hb3.mono (HBR.out.alloc HBR.out.size _).size))
      clear hb3 HC
      go_wp2_with fail
      go_roundw
      case rel => exact ⟨k + 1, by omega, by go_num, HTK.out, HB3.out⟩
      case measure => simp [intOf]; omega
    | false =>
      have HNO := hide (all_stop HX.out hp)
      rw [hp] at HC
      go_wp2_with (first | (go_at_call 80; go_in))
      refine (HC.out _ (HBR.out.alloc HBR.out.size _)).mono ?_
      rintro e w3 ⟨rfl, hb3⟩
      have HB3 := hide ((HBR.out.alloc HBR.out.size (.cells #[u0, u1, u2, u3] 70)).trans (hb3.mono (HBR.out.alloc HBR.out.size _).size))
      clear hb3 HC
      go_wp2_with fail
      go_ret
      exact ⟨_, rfl, .inr ⟨by omega, HNO.out⟩, HB3.out⟩
set_option maxRecDepth 100000 in
theorem all_ins (v : Value) (l : List InsD) (p : InsD → Bool) (W : World) (hv : Hid (DAt W (fun _ => True) v (.row 4 (l.map InsD.cells)))) (hl : l.length ≤ 140737488355328) (hc : Hid (∀ x ∈ l, ∀ us w', Below W.heap.size W w' → DCells w' (fun _ => True) us (InsD.cells x) → Calls Tryz.prog 16 #[.agg us.toArray] w' fun e w'' => e = .returned (.bool (p x)) ∧ Below w'.heap.size w' w'')) :
    Calls Tryz.prog 15 #[v, .func (.func 16) #[] #[]] W fun e w' => e = .returned (.bool (l.all p)) ∧ Below W.heap.size W w' := by
  have hmf : ∀ (fn : Fn) (first cap : Array Value) (w : World), (Instr.makeFunc fn first cap).run Tryz.prog w = .ok (.func fn first cap) w := fun _ _ _ _ => rfl
  have HB := hide ((Below.refl W.heap.size W).alloc (Nat.le_refl _) (.cells #[.func (.func 16) #[] #[]] 82))
  have HI := hide (idx_ins W.heap.size v l p (W.alloc (.cells #[.func (.func 16) #[] #[]] 82)) (hide (hv.out.later HB.out)) hl (by rw [cell_of_row _ _ 0 _ _ _ (heap_alloc_new W _)]; rfl) (hide (fun x hx us w' hb hd => hc.out x hx us w' (HB.out.trans (hb.mono HB.out.size)) hd)))
  go_enter Tryz.func15, Tryz.ntmps15
  go_wp2_with (first | (go_at_call 79; go_in))
  refine HI.out.mono ?_
  rintro e w2 ⟨r, rfl, hr, hb⟩
  have HB2 := hide (HB.out.trans (hb.mono HB.out.size))
  have HR := hide (show l.all p = !decide (0 ≤ r) by rcases hr with ⟨h1, h2⟩ | ⟨h1, h2⟩ <;> simp [h2] <;> omega)
  clear hb hr HI
  go_wp2_with fail
  go_ret
  exact ⟨by rw [HR.out]; rfl, HB2.out⟩
set_option maxRecDepth 100000 in
set_option maxHeartbeats 4000000 in
theorem idx_ref (bx : Nat) (v : Value) (l : List RefD) (p : RefD → Bool) (W : World) (hv : Hid (DAt W (fun _ => True) v (.row 3 (l.map RefD.cells)))) (hl : l.length ≤ 140737488355328) (hx0 : W.cell? ⟨bx, 0, none⟩ = some (.func (.func 151) #[] #[])) (hc : Hid (∀ x ∈ l, ∀ us w', Below W.heap.size W w' → DCells w' (fun _ => True) us (RefD.cells x) → Calls Tryz.prog 151 #[.agg us.toArray] w' fun e w'' => e = .returned (.bool (p x)) ∧ Below w'.heap.size w' w'')) :
    Calls Tryz.prog 210 #[v, .func (.func 190) #[] #[.pointer (some ⟨bx, 0, none⟩)]] W fun e w' => ∃ r : Int, e = .returned (.int .i64 r) ∧ (r < 0 ∧ l.all p = true ∨ 0 ≤ r ∧ l.all p = false) ∧ Below W.heap.size W w' := by
  obtain ⟨A, c, rfl, hA⟩ := hv.out.slice
  have HA := hide hA
  clear hA hv
  rw [List.length_map]
  have hbx := cell_lt hx0
  go_enter Tryz.func210, Tryz.ntmps210
  go_wp2_with fail
  go_loopw [8] (fun v8 wr => ∃ k : Nat, k ≤ l.length ∧ v8 = .int .i64 k ∧ (l.take k).all p = true ∧ Below W.heap.size W wr) (fun v8 _ => l.length - (intOf v8).toNat)
  case atStart => exact ⟨0, by omega, rfl, by simp, Below.refl _ _⟩
  case round =>
    obtain ⟨k, hk, rfl, ht, hbr⟩ := hrel
    have HT := hide ht
    have HBR := hide hbr
    clear ht
    by_cases hlt : k < l.length
    rotate_left
    · obtain rfl : k = l.length := by omega
      rw [List.take_length] at HT
      clear hbr hlt
      go_wp2_with fail
      go_ret
      exact ⟨_, rfl, .inl ⟨by decide, HT.out⟩, HBR.out⟩
    obtain ⟨x, hx⟩ : ∃ x, l[k]? = some x := ⟨_, List.getElem?_eq_getElem hlt⟩
    obtain ⟨b, off, rfl, hb, hca⟩ := HA.out.at_ hx
    obtain ⟨u0, c0, g0⟩ := hca 0 _ rfl
    obtain ⟨u1, c1, g1⟩ := hca 1 _ rfl
    obtain ⟨u2, c2, g2⟩ := hca 2 _ rfl
    clear hca
    have c0 := (HBR.out.cell (p := ⟨b, off + k * 3, none⟩) hb).trans c0
    have c1 := (HBR.out.cell (p := ⟨b, off + k * 3 + 1, none⟩) hb).trans c1
    have c2 := (HBR.out.cell (p := ⟨b, off + k * 3 + 2, none⟩) hb).trans c2
    have hbxw := (hbr.cell hbx).trans hx0
    have lbx : bx < wr.heap.size := Nat.lt_of_lt_of_le hbx hbr.size
    have HC := hide (fun w' (hbw : Below W.heap.size W w') => hc.out x (List.mem_of_getElem? hx) [u0, u1, u2] w' hbw (DCells.cons (g0.later hbw) (DCells.cons (g1.later hbw) (DCells.cons (g2.later hbw) DCells.nil))))
    have k0 : (0 : Int) ≤ (k : Int) ∧ (k : Int) < ((l.length : Nat) : Int) := by omega
    have HX := hide hx
    clear hx hbr
    cases hp : p x with
    | true =>
      have HTK := hide (all_step HT.out HX.out hp)
      rw [hp] at HC
      go_wp2_with (first | (go_at_call 190; go_in))
      refine (HC.out _ (HBR.out.alloc HBR.out.size _)).mono ?_
      rintro e w3 ⟨rfl, hb3⟩
      have HB3 := hide ((HBR.out.alloc HBR.out.size (.cells #[u0, u1, u2] 57)).trans (hb3.mono (HBR.out.alloc HBR.out.size _).size))
      clear hb3 HC
      go_wp2_with fail
      go_roundw
      case rel => exact ⟨k + 1, by omega, by go_num, HTK.out, HB3.out⟩
      case measure => simp [intOf]; omega
    | false =>
      have HNO := hide (all_stop HX.out hp)
      rw [hp] at HC
      go_wp2_with (first | (go_at_call 190; go_in))
      refine (HC.out _ (HBR.out.alloc HBR.out.size _)).mono ?_
      rintro e w3 ⟨rfl, hb3⟩
      have HB3 := hide ((HBR.out.alloc HBR.out.size (.cells #[u0, u1, u2] 57)).trans (hb3.mono (HBR.out.alloc HBR.out.size _).size))
      clear hb3 HC
      go_wp2_with fail
      go_ret
      exact ⟨_, rfl, .inr ⟨by omega, HNO.out⟩, HB3.out⟩
set_option maxRecDepth 100000 in
theorem all_ref (v : Value) (l : List RefD) (p : RefD → Bool) (W : World) (hv : Hid (DAt W (fun _ => True) v (.row 3 (l.map RefD.cells)))) (hl : l.length ≤ 140737488355328) (hc : Hid (∀ x ∈ l, ∀ us w', Below W.heap.size W w' → DCells w' (fun _ => True) us (RefD.cells x) → Calls Tryz.prog 151 #[.agg us.toArray] w' fun e w'' => e = .returned (.bool (p x)) ∧ Below w'.heap.size w' w'')) :
    Calls Tryz.prog 152 #[v, .func (.func 151) #[] #[]] W fun e w' => e = .returned (.bool (l.all p)) ∧ Below W.heap.size W w' := by
  have hmf : ∀ (fn : Fn) (first cap : Array Value) (w : World), (Instr.makeFunc fn first cap).run Tryz.prog w = .ok (.func fn first cap) w := fun _ _ _ _ => rfl
  have HB := hide ((Below.refl W.heap.size W).alloc (Nat.le_refl _) (.cells #[.func (.func 151) #[] #[]] 217))
  have HI := hide (idx_ref W.heap.size v l p (W.alloc (.cells #[.func (.func 151) #[] #[]] 217)) (hide (hv.out.later HB.out)) hl (by rw [cell_of_row _ _ 0 _ _ _ (heap_alloc_new W _)]; rfl) (hide (fun x hx us w' hb hd => hc.out x hx us w' (HB.out.trans (hb.mono HB.out.size)) hd)))
  go_enter Tryz.func152, Tryz.ntmps152
  go_wp2_with (first | (go_at_call 189; go_in))
  refine HI.out.mono ?_
  rintro e w2 ⟨r, rfl, hr, hb⟩
  have HB2 := hide (HB.out.trans (hb.mono HB.out.size))
  have HR := hide (show l.all p = !decide (0 ≤ r) by rcases hr with ⟨h1, h2⟩ | ⟨h1, h2⟩ <;> simp [h2] <;> omega)
  clear hb hr HI
  go_wp2_with fail
  go_ret
  exact ⟨by rw [HR.out]; rfl, HB2.out⟩
set_option maxRecDepth 100000 in
set_option maxHeartbeats 4000000 in
theorem idx_rep (bx : Nat) (v : Value) (l : List RepD) (p : RepD → Bool) (W : World) (hv : Hid (DAt W (fun _ => True) v (.row 2 (l.map RepD.cells)))) (hl : l.length ≤ 140737488355328) (hx0 : W.cell? ⟨bx, 0, none⟩ = some (.func (.func 113) #[] #[])) (hc : Hid (∀ x ∈ l, ∀ us w', Below W.heap.size W w' → DCells w' (fun _ => True) us (RepD.cells x) → Calls Tryz.prog 113 #[.agg us.toArray] w' fun e w'' => e = .returned (.bool (p x)) ∧ Below w'.heap.size w' w'')) :
    Calls Tryz.prog 191 #[v, .func (.func 162) #[] #[.pointer (some ⟨bx, 0, none⟩)]] W fun e w' => ∃ r : Int, e = .returned (.int .i64 r) ∧ (r < 0 ∧ l.all p = true ∨ 0 ≤ r ∧ l.all p = false) ∧ Below W.heap.size W w' := by
  obtain ⟨A, c, rfl, hA⟩ := hv.out.slice
  have HA := hide hA
  clear hA hv
  rw [List.length_map]
  have hbx := cell_lt hx0
  go_enter Tryz.func191, Tryz.ntmps191
  go_wp2_with fail
  go_loopw [8] (fun v8 wr => ∃ k : Nat, k ≤ l.length ∧ v8 = .int .i64 k ∧ (l.take k).all p = true ∧ Below W.heap.size W wr) (fun v8 _ => l.length - (intOf v8).toNat)
  case atStart => exact ⟨0, by omega, rfl, by simp, Below.refl _ _⟩
  case round =>
    obtain ⟨k, hk, rfl, ht, hbr⟩ := hrel
    have HT := hide ht
    have HBR := hide hbr
    clear ht
    by_cases hlt : k < l.length
    rotate_left
    · obtain rfl : k = l.length := by omega
      rw [List.take_length] at HT
      clear hbr hlt
      go_wp2_with fail
      go_ret
      exact ⟨_, rfl, .inl ⟨by decide, HT.out⟩, HBR.out⟩
    obtain ⟨x, hx⟩ : ∃ x, l[k]? = some x := ⟨_, List.getElem?_eq_getElem hlt⟩
    obtain ⟨b, off, rfl, hb, hca⟩ := HA.out.at_ hx
    obtain ⟨u0, c0, g0⟩ := hca 0 _ rfl
    obtain ⟨u1, c1, g1⟩ := hca 1 _ rfl
    clear hca
    have c0 := (HBR.out.cell (p := ⟨b, off + k * 2, none⟩) hb).trans c0
    have c1 := (HBR.out.cell (p := ⟨b, off + k * 2 + 1, none⟩) hb).trans c1
    have hbxw := (hbr.cell hbx).trans hx0
    have lbx : bx < wr.heap.size := Nat.lt_of_lt_of_le hbx hbr.size
    have HC := hide (fun w' (hbw : Below W.heap.size W w') => hc.out x (List.mem_of_getElem? hx) [u0, u1] w' hbw (DCells.cons (g0.later hbw) (DCells.cons (g1.later hbw) DCells.nil)))
    have k0 : (0 : Int) ≤ (k : Int) ∧ (k : Int) < ((l.length : Nat) : Int) := by omega
    have HX := hide hx
    clear hx hbr
    cases hp : p x with
    | true =>
      have HTK := hide (all_step HT.out HX.out hp)
      rw [hp] at HC
      go_wp2_with (first | (go_at_call 162; go_in))
      refine (HC.out _ (HBR.out.alloc HBR.out.size _)).mono ?_
      rintro e w3 ⟨rfl, hb3⟩
      have HB3 := hide ((HBR.out.alloc HBR.out.size (.cells #[u0, u1] 64)).trans (hb3.mono (HBR.out.alloc HBR.out.size _).size))
      clear hb3 HC
      go_wp2_with fail
      go_roundw
      case rel => exact ⟨k + 1, by omega, by go_num, HTK.out, HB3.out⟩
      case measure => simp [intOf]; omega
    | false =>
      have HNO := hide (all_stop HX.out hp)
      rw [hp] at HC
      go_wp2_with (first | (go_at_call 162; go_in))
      refine (HC.out _ (HBR.out.alloc HBR.out.size _)).mono ?_
      rintro e w3 ⟨rfl, hb3⟩
      have HB3 := hide ((HBR.out.alloc HBR.out.size (.cells #[u0, u1] 64)).trans (hb3.mono (HBR.out.alloc HBR.out.size _).size))
      clear hb3 HC
      go_wp2_with fail
      go_ret
      exact ⟨_, rfl, .inr ⟨by omega, HNO.out⟩, HB3.out⟩
set_option maxRecDepth 100000 in
theorem all_rep (v : Value) (l : List RepD) (p : RepD → Bool) (W : World) (hv : Hid (DAt W (fun _ => True) v (.row 2 (l.map RepD.cells)))) (hl : l.length ≤ 140737488355328) (hc : Hid (∀ x ∈ l, ∀ us w', Below W.heap.size W w' → DCells w' (fun _ => True) us (RepD.cells x) → Calls Tryz.prog 113 #[.agg us.toArray] w' fun e w'' => e = .returned (.bool (p x)) ∧ Below w'.heap.size w' w'')) :
    Calls Tryz.prog 112 #[v, .func (.func 113) #[] #[]] W fun e w' => e = .returned (.bool (l.all p)) ∧ Below W.heap.size W w' := by
  have hmf : ∀ (fn : Fn) (first cap : Array Value) (w : World), (Instr.makeFunc fn first cap).run Tryz.prog w = .ok (.func fn first cap) w := fun _ _ _ _ => rfl
  have HB := hide ((Below.refl W.heap.size W).alloc (Nat.le_refl _) (.cells #[.func (.func 113) #[] #[]] 189))
  have HI := hide (idx_rep W.heap.size v l p (W.alloc (.cells #[.func (.func 113) #[] #[]] 189)) (hide (hv.out.later HB.out)) hl (by rw [cell_of_row _ _ 0 _ _ _ (heap_alloc_new W _)]; rfl) (hide (fun x hx us w' hb hd => hc.out x hx us w' (HB.out.trans (hb.mono HB.out.size)) hd)))
  go_enter Tryz.func112, Tryz.ntmps112
  go_wp2_with (first | (go_at_call 161; go_in))
  refine HI.out.mono ?_
  rintro e w2 ⟨r, rfl, hr, hb⟩
  have HB2 := hide (HB.out.trans (hb.mono HB.out.size))
  have HR := hide (show l.all p = !decide (0 ≤ r) by rcases hr with ⟨h1, h2⟩ | ⟨h1, h2⟩ <;> simp [h2] <;> omega)
  clear hb hr HI
  go_wp2_with fail
  go_ret
  exact ⟨by rw [HR.out]; rfl, HB2.out⟩
end Go.Proofs.YtndpnpohdoggjaaGreatDoor
