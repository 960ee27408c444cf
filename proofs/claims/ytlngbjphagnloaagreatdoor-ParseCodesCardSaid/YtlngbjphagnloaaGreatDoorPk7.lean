/-
  Merged texts: parse: the parser's errors are 80 and 81. | nacellekit's Same functions (printed by tools/same.py): ints, texts, inss, ports, refs, switches, links, healths, reports, versions.
-/
import Derived.Test.YtlngbjphagnloaaGreatDoorPk4
import Derived.Test.YtlngbjphagnloaaGreatDoorPk6
namespace Go.Proofs.YtlngbjphagnloaaGreatDoor
def Er {α : Type} (m : Ps α) : Prop := ∀ r n r', m r = .bad n r' → n = 80 ∨ n = 81
theorem Er.ret {α : Type} (a : α) : Er (pure a : Ps α) := fun r n r' h => by
  have h : (Res.ok a r : Res α) = .bad n r' := h
  cases h
theorem Er.bind {α β : Type} {m : Ps α} {f : α → Ps β} (h : Er m) (k : ∀ a, Er (f a)) : Er (m >>= f) := fun r n r' e => by
  cases hm : m r with
  | ok a r1 => rw [bnd_ok hm] at e; exact k a _ _ _ e
  | bad n1 r1 =>
    rw [bnd_bad hm] at e
    injection e with e1 _
    subst e1
    exact h _ _ _ hm
theorem takes_er (t : List UInt8) : Er (takesP t) := fun r n r' h => by
  unfold takesP at h
  split at h <;> cases h
theorem must_er (t : List UInt8) : Er (mustP t) := fun r n r' h => by
  unfold mustP at h
  split at h
  · cases h
  · injection h with h _; exact .inl h.symm
theorem next_er (k : Nat) : Er (nextP k) := fun r n r' h => by
  unfold nextP at h
  split at h
  · cases h
  · injection h with h _; exact .inl h.symm
theorem name_er : Er nameP := next_er 1
theorem num_er : Er numP := (next_er 2).bind fun _ => .ret _
theorem after_er (t : List UInt8) : Er (afterP t) := (must_er t).bind fun _ => num_er
theorem of_er (l : List (List UInt8)) : Er (ofP l) := fun r n r' h => by
  unfold ofP at h
  split at h
  · cases h
  · injection h with h _; exact .inl h.symm
theorem more_er {α : Type} {x : Ps α} (h : Er x) : ∀ (f : Nat) (acc : List α), Er (moreP x f acc)
  | 0, acc => .ret acc
  | f + 1, acc => (takes_er _).bind fun b => by
    cases b
    · exact .ret acc
    · exact h.bind fun a => more_er h f (acc ++ [a])
theorem list_er {α : Type} {x : Ps α} (h : Er x) : Er (listP x) := h.bind fun _a r n r' e => more_er h _ _ r n r' e
theorem ref_er : Er refP := name_er.bind fun _ => (must_er _).bind fun _ => name_er.bind fun _ => (must_er _).bind fun _ => name_er.bind fun _ => .ret _
theorem net_er : Er netP := (must_er _).bind fun _ => (of_er _).bind fun _ => .ret _
theorem ops_er : ∀ n, Er (opsP n)
  | 0 => .ret _
  | n + 1 => num_er.bind fun _ => (ops_er n).bind fun _ => .ret _
theorem ins_er : Er insP := (of_er _).bind fun _ => (ops_er _).bind fun _ => (must_er _).bind fun _ => .ret _
theorem code_loop_er : ∀ (f : Nat) (acc : List InsD), Er (codeLoop f acc)
  | 0, acc => .ret acc
  | f + 1, acc => fun r n r' h => by
    unfold codeLoop at h
    split at h
    · exact (ins_er.bind fun x => code_loop_er f (acc ++ [x])) r n r' h
    · cases h
theorem code_er : Er codeP := fun r n r' h => code_loop_er _ _ r n r' h
theorem way_er : Er wayP := fun r n r' h => by
  unfold wayP at h
  split at h
  · cases h
  · split at h
    · cases h
    · injection h with h _; exact .inl h.symm
theorem port_er : Er portP := way_er.bind fun _ => name_er.bind fun _ => (of_er _).bind fun kind => (after_er _).bind fun _ => by
  by_cases hk : kind = 1
  · simp only [hk, if_true]
    exact (after_er _).bind fun _ => (must_er _).bind fun _ => .ret _
  · simp only [hk, if_false]
    exact (after_er _).bind fun _ => (must_er _).bind fun _ => .ret _
theorem proc_er : Er procP := name_er.bind fun _ => (after_er _).bind fun _ => (after_er _).bind fun _ => (after_er _).bind fun _ => (must_er _).bind fun _ => code_er.bind fun _ => (must_er _).bind fun _ => .ret _
theorem skip_er : Er skipP := fun r n r' h => by
  unfold skipP at h
  cases h
theorem once_er (w : List UInt8) (b : BuildD) {x : Ps PartD} (h : Er x) : Er (onceP w b x) := fun r n r' e => by
  unfold onceP at e
  split at e
  · injection e with e _; exact .inr e.symm
  · exact (skip_er.bind fun _ => h.bind fun _ => (must_er _).bind fun _ => .ret _) r n r' e
theorem thing_er (b : BuildD) : Er (thingP b) := fun r n r' h => by
  unfold thingP at h
  split at h
  · exact once_er _ b ((list_er num_er).bind fun _ => .ret _) r n r' h
  · split at h
    · exact once_er _ b ((list_er num_er).bind fun _ => .ret _) r n r' h
    · split at h
      · exact once_er _ b (num_er.bind fun _ => .ret _) r n r' h
      · split at h
        · exact once_er _ b (num_er.bind fun _ => .ret _) r n r' h
        · split at h
          · exact (skip_er.bind fun _ => proc_er.bind fun _ => .ret _) r n r' h
          · exact (port_er.bind fun _ => .ret _) r n r' h
theorem things_er : ∀ (f : Nat) (b : BuildD), Er (thingsLoop f b)
  | 0, b => .ret b
  | f + 1, b => fun r n r' h => by
    unfold thingsLoop at h
    split at h
    · cases h
    · exact ((thing_er b).bind fun b' => things_er f b') r n r' h
theorem part_er : Er partP := name_er.bind fun _ => (after_er _).bind fun _ => (after_er _).bind fun _ => (after_er _).bind fun _ => (must_er _).bind fun _ =>
  Er.bind (fun r n r' h => things_er _ _ r n r' h) fun _ => .ret _
theorem parts_er : ∀ (f : Nat) (acc : List PartD), Er (partsLoop f acc)
  | 0, acc => .ret acc
  | f + 1, acc => (takes_er _).bind fun b => by
    cases b
    · exact .ret acc
    · exact part_er.bind fun a => parts_er f (acc ++ [a])
theorem mod_er : Er modP := name_er.bind fun _ => (after_er _).bind fun _ => (after_er _).bind fun _ => (must_er _).bind fun _ =>
  Er.bind (fun r n r' h => parts_er _ _ r n r' h) fun _ => (must_er _).bind fun _ => .ret _
theorem chan_er : Er chanP := ref_er.bind fun _ => (must_er _).bind fun _ => (list_er ref_er).bind fun _ => (must_er _).bind fun _ => .ret _
theorem sw_er : Er swP := name_er.bind fun _ => net_er.bind fun _ => (after_er _).bind fun _ => (after_er _).bind fun _ => (must_er _).bind fun _ => .ret _
theorem link_er : Er linkP := name_er.bind fun _ => name_er.bind fun _ => net_er.bind fun _ => (after_er _).bind fun _ => (must_er _).bind fun _ => .ret _
theorem vl_er : Er vlP := name_er.bind fun _ => (must_er _).bind fun _ => ref_er.bind fun _ => (after_er _).bind fun _ => (after_er _).bind fun _ => (must_er _).bind fun _ => (list_er ref_er).bind fun _ => (must_er _).bind fun _ => .ret _
theorem opt_er (t : List UInt8) : Er (optP t) := (takes_er t).bind fun b => by
  cases b
  · exact .ret _
  · exact name_er
theorem health_er : Er healthP := (of_er _).bind fun _ => (opt_er _).bind fun _ => (opt_er _).bind fun _ => (must_er _).bind fun _ => (of_er _).bind fun _ => (must_er _).bind fun _ => (of_er _).bind fun _ => (must_er _).bind fun _ => .ret _
theorem rep_er : Er repP := name_er.bind fun _ => (must_er _).bind fun _ => num_er.bind fun _ => .ret _
theorem unless_er : Er unlessP := (takes_er _).bind fun b => by
  cases b
  · exact .ret _
  · exact list_er name_er
theorem cause_er : Er causeP := name_er.bind fun _ => (must_er _).bind fun _ => (list_er rep_er).bind fun _ => unless_er.bind fun _ => (must_er _).bind fun _ => .ret _
theorem works_er : Er worksP := name_er.bind fun _ => num_er.bind fun _ => (must_er _).bind fun _ => name_er.bind fun _ => num_er.bind fun _ => (must_er _).bind fun _ => .ret _
theorem item_er (c : CfgD) : Er (itemP c) := fun r n r' h => by
  unfold itemP at h
  split at h
  · exact (skip_er.bind fun _ => mod_er.bind fun _ => .ret _) r n r' h
  · split at h
    · exact (skip_er.bind fun _ => chan_er.bind fun _ => .ret _) r n r' h
    · split at h
      · exact (skip_er.bind fun _ => sw_er.bind fun _ => .ret _) r n r' h
      · split at h
        · exact (skip_er.bind fun _ => link_er.bind fun _ => .ret _) r n r' h
        · split at h
          · exact (skip_er.bind fun _ => vl_er.bind fun _ => .ret _) r n r' h
          · split at h
            · exact (skip_er.bind fun _ => health_er.bind fun _ => .ret _) r n r' h
            · split at h
              · exact (skip_er.bind fun _ => cause_er.bind fun _ => .ret _) r n r' h
              · split at h
                · exact (skip_er.bind fun _ => works_er.bind fun _ => .ret _) r n r' h
                · injection h with h _; exact .inl h.symm
theorem items_er : ∀ (f : Nat) (c : CfgD), Er (itemsLoop f c)
  | 0, c => .ret c
  | f + 1, c => fun r n r' h => by
    cases r with
    | nil => cases h
    | cons t r => exact ((item_er c).bind fun c' => items_er f c') (t :: r) n r' h
theorem cfg_er : Er cfgP := fun r n r' h => items_er _ _ r n r' h
end Go.Proofs.YtlngbjphagnloaaGreatDoor
namespace Go.Proofs.YtlngbjphagnloaaGreatDoor
open Go.RowKit
attribute [local go_sem] Later.cell eqB_self
set_option maxRecDepth 100000 in
set_option maxHeartbeats 4000000 in
theorem same_ints (va vb : Value) (la lb : List Int) (W : World) (Ha : Hid (DAt W (fun _ => True) va (.row 1 (la.map (fun n : Int => [lI n]))))) (Hb : Hid (DAt W (fun _ => True) vb (.row 1 (lb.map (fun n : Int => [lI n]))))) (hla : la.length ≤ 1099511627776) (_hlb : lb.length ≤ 1099511627776) :
    Calls Tryz.prog 165 #[va, vb] W fun e w' => e = .returned (.bool (eqB la lb)) ∧ Below W.heap.size W w' := by
  obtain ⟨A, c, rfl, hA⟩ := Ha.out.slice
  obtain ⟨A', c', rfl, hB⟩ := Hb.out.slice
  have HA := hide hA
  have HB := hide hB
  clear hA hB Ha Hb
  rw [List.length_map, List.length_map]
  by_cases hn : la.length = lb.length
  rotate_left
  · have hd : ((la.length : Int) == ((lb.length : Nat) : Int)) = false := by rw [beq_eq_false_iff_ne]; omega
    have hd2 : ((la.length : Int) != ((lb.length : Nat) : Int)) = true := by simp; omega
    have HNE := hide (eqB_no (fun e : la = lb => hn (congrArg List.length e)))
    clear hn
    go_enter Tryz.func165, Tryz.ntmps165
    go_wp2_with fail
    go_ret
    exact ⟨ret_bool HNE.out.symm, Below.refl _ _⟩
  rw [← hn]
  have HN := hide hn
  clear hn
  go_enter Tryz.func165, Tryz.ntmps165
  go_wp2_with fail
  go_loopw [5] (fun v5 wr => ∃ k : Nat, k ≤ la.length ∧ v5 = .int .i64 k ∧ la.take k = lb.take k ∧ Below W.heap.size W wr) (fun v5 _ => la.length - (intOf v5).toNat)
  case atStart => exact ⟨0, by omega, rfl, rfl, Below.refl _ _⟩
  case round =>
    obtain ⟨k, hk, rfl, ht, hbr⟩ := hrel
    have HT := hide ht
    have HBR := hide hbr
    clear ht hbr
    by_cases hlt : k < la.length
    rotate_left
    · have HEQ := hide (eqB_yes (all_taken HT.out hlt HN.out))
      have hdl : decide ((k : Int) < ((la.length : Nat) : Int)) = false := by simp; omega
      go_wp2_with fail
      go_ret
      exact ⟨ret_bool HEQ.out.symm, HBR.out⟩
    obtain ⟨x, hx⟩ : ∃ x, la[k]? = some x := ⟨_, List.getElem?_eq_getElem hlt⟩
    obtain ⟨y, hy⟩ : ∃ y, lb[k]? = some y := ⟨_, List.getElem?_eq_getElem (by have := HN.out; omega)⟩
    obtain ⟨b, off, rfl, hb, hca⟩ := HA.out.at_ hx
    obtain ⟨b', off', rfl, hb', hcb⟩ := HB.out.at_ hy
    have c0 : wr.cell? ⟨b, off + k, none⟩ = some (Value.int .i64 (x)) := lc HBR.out hb (by have := (hca 0 _ rfl); simpa [strV, lI] using this)
    have d0 : wr.cell? ⟨b', off' + k, none⟩ = some (Value.int .i64 (y)) := lc HBR.out hb' (by have := (hcb 0 _ rfl); simpa [strV, lI] using this)
    have hbw := HBR.out.size
    have hb1 : b < wr.heap.size := by omega
    have hb2 : b' < wr.heap.size := by omega
    clear hca hcb
    have k0 : (0 : Int) ≤ (k : Int) ∧ (k : Int) < ((la.length : Nat) : Int) := by omega
    have k1 : decide (k < la.length) = true := by simp; exact hlt
    have HX := hide hx
    have HY := hide hy
    clear hx hy
    rcases dI x y with ⟨h, g⟩ | rfl
    rotate_left
    all_goals
      first
        | have HTK := hide (take_step HT.out HX.out HY.out)
        | have HNE := hide (at_ne HX.out HY.out (by intro e; cases e; simp at h))
      go_wp2_with fail
      go_quiet (fail)
      go_wp2_with fail
      first
        | (go_ret; exact ⟨ret_bool HNE.out.symm, below_drewN HBR.out _⟩)
        | (go_roundw; (case rel => exact ⟨k + 1, by omega, by go_num, HTK.out, below_drewN HBR.out _⟩); (case measure => simp [intOf]; omega))
set_option maxRecDepth 100000 in
set_option maxHeartbeats 4000000 in
theorem same_texts (va vb : Value) (la lb : List (List UInt8)) (W : World) (Ha : Hid (DAt W (fun _ => True) va (.row 1 (la.map (fun s : List UInt8 => [lS s]))))) (Hb : Hid (DAt W (fun _ => True) vb (.row 1 (lb.map (fun s : List UInt8 => [lS s]))))) (hla : la.length ≤ 1099511627776) (_hlb : lb.length ≤ 1099511627776) :
    Calls Tryz.prog 105 #[va, vb] W fun e w' => e = .returned (.bool (eqB la lb)) ∧ Below W.heap.size W w' := by
  obtain ⟨A, c, rfl, hA⟩ := Ha.out.slice
  obtain ⟨A', c', rfl, hB⟩ := Hb.out.slice
  have HA := hide hA
  have HB := hide hB
  clear hA hB Ha Hb
  rw [List.length_map, List.length_map]
  by_cases hn : la.length = lb.length
  rotate_left
  · have hd : ((la.length : Int) == ((lb.length : Nat) : Int)) = false := by rw [beq_eq_false_iff_ne]; omega
    have hd2 : ((la.length : Int) != ((lb.length : Nat) : Int)) = true := by simp; omega
    have HNE := hide (eqB_no (fun e : la = lb => hn (congrArg List.length e)))
    clear hn
    go_enter Tryz.func105, Tryz.ntmps105
    go_wp2_with fail
    go_ret
    exact ⟨ret_bool HNE.out.symm, Below.refl _ _⟩
  rw [← hn]
  have HN := hide hn
  clear hn
  go_enter Tryz.func105, Tryz.ntmps105
  go_wp2_with fail
  go_loopw [5] (fun v5 wr => ∃ k : Nat, k ≤ la.length ∧ v5 = .int .i64 k ∧ la.take k = lb.take k ∧ Below W.heap.size W wr) (fun v5 _ => la.length - (intOf v5).toNat)
  case atStart => exact ⟨0, by omega, rfl, rfl, Below.refl _ _⟩
  case round =>
    obtain ⟨k, hk, rfl, ht, hbr⟩ := hrel
    have HT := hide ht
    have HBR := hide hbr
    clear ht hbr
    by_cases hlt : k < la.length
    rotate_left
    · have HEQ := hide (eqB_yes (all_taken HT.out hlt HN.out))
      have hdl : decide ((k : Int) < ((la.length : Nat) : Int)) = false := by simp; omega
      go_wp2_with fail
      go_ret
      exact ⟨ret_bool HEQ.out.symm, HBR.out⟩
    obtain ⟨x, hx⟩ : ∃ x, la[k]? = some x := ⟨_, List.getElem?_eq_getElem hlt⟩
    obtain ⟨y, hy⟩ : ∃ y, lb[k]? = some y := ⟨_, List.getElem?_eq_getElem (by have := HN.out; omega)⟩
    obtain ⟨b, off, rfl, hb, hca⟩ := HA.out.at_ hx
    obtain ⟨b', off', rfl, hb', hcb⟩ := HB.out.at_ hy
    have c0 : wr.cell? ⟨b, off + k, none⟩ = some (Value.string ⟨(x).toArray⟩) := lc HBR.out hb (by have := (hca 0 _ rfl); simpa [strV, lS] using this)
    have d0 : wr.cell? ⟨b', off' + k, none⟩ = some (Value.string ⟨(y).toArray⟩) := lc HBR.out hb' (by have := (hcb 0 _ rfl); simpa [strV, lS] using this)
    have hbw := HBR.out.size
    have hb1 : b < wr.heap.size := by omega
    have hb2 : b' < wr.heap.size := by omega
    clear hca hcb
    have k0 : (0 : Int) ≤ (k : Int) ∧ (k : Int) < ((la.length : Nat) : Int) := by omega
    have k1 : decide (k < la.length) = true := by simp; exact hlt
    have HX := hide hx
    have HY := hide hy
    clear hx hy
    rcases dS x y with h | rfl
    rotate_left
    all_goals
      first
        | have HTK := hide (take_step HT.out HX.out HY.out)
        | have HNE := hide (at_ne HX.out HY.out (by intro e; cases e; simp at h))
      (try generalize (⟨x.toArray⟩ : ByteArray) = xB0 at *)
      (try generalize (⟨y.toArray⟩ : ByteArray) = yB0 at *)
      go_wp2_with fail
      go_quiet (fail)
      go_wp2_with fail
      first
        | (go_ret; exact ⟨ret_bool HNE.out.symm, below_drewN HBR.out _⟩)
        | (go_roundw; (case rel => exact ⟨k + 1, by omega, by go_num, HTK.out, below_drewN HBR.out _⟩); (case measure => simp [intOf]; omega))
set_option maxRecDepth 100000 in
set_option maxHeartbeats 4000000 in
theorem same_inss (va vb : Value) (la lb : List InsD) (W : World) (Ha : Hid (DAt W (fun _ => True) va (.row 4 (la.map InsD.cells)))) (Hb : Hid (DAt W (fun _ => True) vb (.row 4 (lb.map InsD.cells)))) (hla : la.length ≤ 1099511627776) (_hlb : lb.length ≤ 1099511627776) :
    Calls Tryz.prog 21 #[va, vb] W fun e w' => e = .returned (.bool (eqB la lb)) ∧ Below W.heap.size W w' := by
  obtain ⟨A, c, rfl, hA⟩ := Ha.out.slice
  obtain ⟨A', c', rfl, hB⟩ := Hb.out.slice
  have HA := hide hA
  have HB := hide hB
  clear hA hB Ha Hb
  rw [List.length_map, List.length_map]
  by_cases hn : la.length = lb.length
  rotate_left
  · have hd : ((la.length : Int) == ((lb.length : Nat) : Int)) = false := by rw [beq_eq_false_iff_ne]; omega
    have hd2 : ((la.length : Int) != ((lb.length : Nat) : Int)) = true := by simp; omega
    have HNE := hide (eqB_no (fun e : la = lb => hn (congrArg List.length e)))
    clear hn
    go_enter Tryz.func21, Tryz.ntmps21
    go_wp2_with fail
    go_ret
    exact ⟨ret_bool HNE.out.symm, Below.refl _ _⟩
  rw [← hn]
  have HN := hide hn
  clear hn
  go_enter Tryz.func21, Tryz.ntmps21
  go_wp2_with fail
  go_loopw [5] (fun v5 wr => ∃ k : Nat, k ≤ la.length ∧ v5 = .int .i64 k ∧ la.take k = lb.take k ∧ Below W.heap.size W wr) (fun v5 _ => la.length - (intOf v5).toNat)
  case atStart => exact ⟨0, by omega, rfl, rfl, Below.refl _ _⟩
  case round =>
    obtain ⟨k, hk, rfl, ht, hbr⟩ := hrel
    have HT := hide ht
    have HBR := hide hbr
    clear ht hbr
    by_cases hlt : k < la.length
    rotate_left
    · have HEQ := hide (eqB_yes (all_taken HT.out hlt HN.out))
      have hdl : decide ((k : Int) < ((la.length : Nat) : Int)) = false := by simp; omega
      go_wp2_with fail
      go_ret
      exact ⟨ret_bool HEQ.out.symm, HBR.out⟩
    obtain ⟨x, hx⟩ : ∃ x, la[k]? = some x := ⟨_, List.getElem?_eq_getElem hlt⟩
    obtain ⟨y, hy⟩ : ∃ y, lb[k]? = some y := ⟨_, List.getElem?_eq_getElem (by have := HN.out; omega)⟩
    obtain ⟨b, off, rfl, hb, hca⟩ := HA.out.at_ hx
    obtain ⟨b', off', rfl, hb', hcb⟩ := HB.out.at_ hy
    have c0 : wr.cell? ⟨b, off + k * 4, none⟩ = some (Value.int .u8 ((x.op : Nat) : Int)) := lc HBR.out hb (hca 0 _ rfl)
    have d0 : wr.cell? ⟨b', off' + k * 4, none⟩ = some (Value.int .u8 ((y.op : Nat) : Int)) := lc HBR.out hb' (hcb 0 _ rfl)
    have c1 : wr.cell? ⟨b, off + k * 4 + 1, none⟩ = some (Value.int .i64 (x.a)) := lc HBR.out hb (hca 1 _ rfl)
    have d1 : wr.cell? ⟨b', off' + k * 4 + 1, none⟩ = some (Value.int .i64 (y.a)) := lc HBR.out hb' (hcb 1 _ rfl)
    have c2 : wr.cell? ⟨b, off + k * 4 + 2, none⟩ = some (Value.int .i64 (x.b)) := lc HBR.out hb (hca 2 _ rfl)
    have d2 : wr.cell? ⟨b', off' + k * 4 + 2, none⟩ = some (Value.int .i64 (y.b)) := lc HBR.out hb' (hcb 2 _ rfl)
    have c3 : wr.cell? ⟨b, off + k * 4 + 3, none⟩ = some (Value.int .i64 (x.c)) := lc HBR.out hb (hca 3 _ rfl)
    have d3 : wr.cell? ⟨b', off' + k * 4 + 3, none⟩ = some (Value.int .i64 (y.c)) := lc HBR.out hb' (hcb 3 _ rfl)
    have hbw := HBR.out.size
    have hb1 : b < wr.heap.size := by omega
    have hb2 : b' < wr.heap.size := by omega
    clear hca hcb
    obtain ⟨p0, p1, p2, p3⟩ := x
    obtain ⟨q0, q1, q2, q3⟩ := y
    dsimp only at c0 d0 c1 d1 c2 d2 c3 d3
    have k0 : (0 : Int) ≤ (k : Int) ∧ (k : Int) < ((la.length : Nat) : Int) := by omega
    have k1 : decide (k < la.length) = true := by simp; exact hlt
    have HX := hide hx
    have HY := hide hy
    clear hx hy
    rcases dU p0 q0 with ⟨h, g⟩ | rfl
    rotate_left
    rcases dI p1 q1 with ⟨h, g⟩ | rfl
    rotate_left
    rcases dI p2 q2 with ⟨h, g⟩ | rfl
    rotate_left
    rcases dI p3 q3 with ⟨h, g⟩ | rfl
    rotate_left
    all_goals
      first
        | have HTK := hide (take_step HT.out HX.out HY.out)
        | have HNE := hide (at_ne HX.out HY.out (by intro e; cases e; simp at h))
      (try generalize ((p0 : Nat) : Int) = xZ0 at *)
      (try generalize ((q0 : Nat) : Int) = yZ0 at *)
      go_wp2_with fail
      go_quiet (fail)
      go_wp2_with fail
      first
        | (go_ret; exact ⟨ret_bool HNE.out.symm, below_drewN HBR.out _⟩)
        | (go_roundw; (case rel => exact ⟨k + 1, by omega, by go_num, HTK.out, below_drewN HBR.out _⟩); (case measure => simp [intOf]; omega))
set_option maxRecDepth 100000 in
set_option maxHeartbeats 4000000 in
theorem same_ports (va vb : Value) (la lb : List PortD) (W : World) (Ha : Hid (DAt W (fun _ => True) va (.row 6 (la.map PortD.cells)))) (Hb : Hid (DAt W (fun _ => True) vb (.row 6 (lb.map PortD.cells)))) (hla : la.length ≤ 1099511627776) (_hlb : lb.length ≤ 1099511627776) :
    Calls Tryz.prog 166 #[va, vb] W fun e w' => e = .returned (.bool (eqB la lb)) ∧ Below W.heap.size W w' := by
  obtain ⟨A, c, rfl, hA⟩ := Ha.out.slice
  obtain ⟨A', c', rfl, hB⟩ := Hb.out.slice
  have HA := hide hA
  have HB := hide hB
  clear hA hB Ha Hb
  rw [List.length_map, List.length_map]
  by_cases hn : la.length = lb.length
  rotate_left
  · have hd : ((la.length : Int) == ((lb.length : Nat) : Int)) = false := by rw [beq_eq_false_iff_ne]; omega
    have hd2 : ((la.length : Int) != ((lb.length : Nat) : Int)) = true := by simp; omega
    have HNE := hide (eqB_no (fun e : la = lb => hn (congrArg List.length e)))
    clear hn
    go_enter Tryz.func166, Tryz.ntmps166
    go_wp2_with fail
    go_ret
    exact ⟨ret_bool HNE.out.symm, Below.refl _ _⟩
  rw [← hn]
  have HN := hide hn
  clear hn
  go_enter Tryz.func166, Tryz.ntmps166
  go_wp2_with fail
  go_loopw [5] (fun v5 wr => ∃ k : Nat, k ≤ la.length ∧ v5 = .int .i64 k ∧ la.take k = lb.take k ∧ Below W.heap.size W wr) (fun v5 _ => la.length - (intOf v5).toNat)
  case atStart => exact ⟨0, by omega, rfl, rfl, Below.refl _ _⟩
  case round =>
    obtain ⟨k, hk, rfl, ht, hbr⟩ := hrel
    have HT := hide ht
    have HBR := hide hbr
    clear ht hbr
    by_cases hlt : k < la.length
    rotate_left
    · have HEQ := hide (eqB_yes (all_taken HT.out hlt HN.out))
      have hdl : decide ((k : Int) < ((la.length : Nat) : Int)) = false := by simp; omega
      go_wp2_with fail
      go_ret
      exact ⟨ret_bool HEQ.out.symm, HBR.out⟩
    obtain ⟨x, hx⟩ : ∃ x, la[k]? = some x := ⟨_, List.getElem?_eq_getElem hlt⟩
    obtain ⟨y, hy⟩ : ∃ y, lb[k]? = some y := ⟨_, List.getElem?_eq_getElem (by have := HN.out; omega)⟩
    obtain ⟨b, off, rfl, hb, hca⟩ := HA.out.at_ hx
    obtain ⟨b', off', rfl, hb', hcb⟩ := HB.out.at_ hy
    have c0 : wr.cell? ⟨b, off + k * 6, none⟩ = some (Value.string ⟨(x.name).toArray⟩) := lc HBR.out hb (hca 0 _ rfl)
    have d0 : wr.cell? ⟨b', off' + k * 6, none⟩ = some (Value.string ⟨(y.name).toArray⟩) := lc HBR.out hb' (hcb 0 _ rfl)
    have c1 : wr.cell? ⟨b, off + k * 6 + 1, none⟩ = some (Value.int .u8 ((x.kind : Nat) : Int)) := lc HBR.out hb (hca 1 _ rfl)
    have d1 : wr.cell? ⟨b', off' + k * 6 + 1, none⟩ = some (Value.int .u8 ((y.kind : Nat) : Int)) := lc HBR.out hb' (hcb 1 _ rfl)
    have c2 : wr.cell? ⟨b, off + k * 6 + 2, none⟩ = some (Value.bool (x.out)) := lc HBR.out hb (hca 2 _ rfl)
    have d2 : wr.cell? ⟨b', off' + k * 6 + 2, none⟩ = some (Value.bool (y.out)) := lc HBR.out hb' (hcb 2 _ rfl)
    have c3 : wr.cell? ⟨b, off + k * 6 + 3, none⟩ = some (Value.int .i64 (x.size)) := lc HBR.out hb (hca 3 _ rfl)
    have d3 : wr.cell? ⟨b', off' + k * 6 + 3, none⟩ = some (Value.int .i64 (y.size)) := lc HBR.out hb' (hcb 3 _ rfl)
    have c4 : wr.cell? ⟨b, off + k * 6 + 4, none⟩ = some (Value.int .i64 (x.depth)) := lc HBR.out hb (hca 4 _ rfl)
    have d4 : wr.cell? ⟨b', off' + k * 6 + 4, none⟩ = some (Value.int .i64 (y.depth)) := lc HBR.out hb' (hcb 4 _ rfl)
    have c5 : wr.cell? ⟨b, off + k * 6 + 5, none⟩ = some (Value.int .i64 (x.refresh)) := lc HBR.out hb (hca 5 _ rfl)
    have d5 : wr.cell? ⟨b', off' + k * 6 + 5, none⟩ = some (Value.int .i64 (y.refresh)) := lc HBR.out hb' (hcb 5 _ rfl)
    have hbw := HBR.out.size
    have hb1 : b < wr.heap.size := by omega
    have hb2 : b' < wr.heap.size := by omega
    clear hca hcb
    obtain ⟨p0, p1, p2, p3, p4, p5⟩ := x
    obtain ⟨q0, q1, q2, q3, q4, q5⟩ := y
    dsimp only at c0 d0 c1 d1 c2 d2 c3 d3 c4 d4 c5 d5
    have k0 : (0 : Int) ≤ (k : Int) ∧ (k : Int) < ((la.length : Nat) : Int) := by omega
    have k1 : decide (k < la.length) = true := by simp; exact hlt
    have HX := hide hx
    have HY := hide hy
    clear hx hy
    rcases dS p0 q0 with h | rfl
    rotate_left
    rcases dU p1 q1 with ⟨h, g⟩ | rfl
    rotate_left
    rcases dB p2 q2 with ⟨h, g⟩ | rfl
    rotate_left
    rcases dI p3 q3 with ⟨h, g⟩ | rfl
    rotate_left
    rcases dI p4 q4 with ⟨h, g⟩ | rfl
    rotate_left
    rcases dI p5 q5 with ⟨h, g⟩ | rfl
    rotate_left
    all_goals
      first
        | have HTK := hide (take_step HT.out HX.out HY.out)
        | have HNE := hide (at_ne HX.out HY.out (by intro e; cases e; simp at h))
      (try generalize (⟨p0.toArray⟩ : ByteArray) = xB0 at *)
      (try generalize (⟨q0.toArray⟩ : ByteArray) = yB0 at *)
      (try generalize ((p1 : Nat) : Int) = xZ1 at *)
      (try generalize ((q1 : Nat) : Int) = yZ1 at *)
      go_wp2_with fail
      go_quiet (fail)
      go_wp2_with fail
      first
        | (go_ret; exact ⟨ret_bool HNE.out.symm, below_drewN HBR.out _⟩)
        | (go_roundw; (case rel => exact ⟨k + 1, by omega, by go_num, HTK.out, below_drewN HBR.out _⟩); (case measure => simp [intOf]; omega))
set_option maxRecDepth 100000 in
set_option maxHeartbeats 4000000 in
theorem same_refs (va vb : Value) (la lb : List RefD) (W : World) (Ha : Hid (DAt W (fun _ => True) va (.row 3 (la.map RefD.cells)))) (Hb : Hid (DAt W (fun _ => True) vb (.row 3 (lb.map RefD.cells)))) (hla : la.length ≤ 1099511627776) (_hlb : lb.length ≤ 1099511627776) :
    Calls Tryz.prog 103 #[va, vb] W fun e w' => e = .returned (.bool (eqB la lb)) ∧ Below W.heap.size W w' := by
  obtain ⟨A, c, rfl, hA⟩ := Ha.out.slice
  obtain ⟨A', c', rfl, hB⟩ := Hb.out.slice
  have HA := hide hA
  have HB := hide hB
  clear hA hB Ha Hb
  rw [List.length_map, List.length_map]
  by_cases hn : la.length = lb.length
  rotate_left
  · have hd : ((la.length : Int) == ((lb.length : Nat) : Int)) = false := by rw [beq_eq_false_iff_ne]; omega
    have hd2 : ((la.length : Int) != ((lb.length : Nat) : Int)) = true := by simp; omega
    have HNE := hide (eqB_no (fun e : la = lb => hn (congrArg List.length e)))
    clear hn
    go_enter Tryz.func103, Tryz.ntmps103
    go_wp2_with fail
    go_ret
    exact ⟨ret_bool HNE.out.symm, Below.refl _ _⟩
  rw [← hn]
  have HN := hide hn
  clear hn
  go_enter Tryz.func103, Tryz.ntmps103
  go_wp2_with fail
  go_loopw [5] (fun v5 wr => ∃ k : Nat, k ≤ la.length ∧ v5 = .int .i64 k ∧ la.take k = lb.take k ∧ Below W.heap.size W wr) (fun v5 _ => la.length - (intOf v5).toNat)
  case atStart => exact ⟨0, by omega, rfl, rfl, Below.refl _ _⟩
  case round =>
    obtain ⟨k, hk, rfl, ht, hbr⟩ := hrel
    have HT := hide ht
    have HBR := hide hbr
    clear ht hbr
    by_cases hlt : k < la.length
    rotate_left
    · have HEQ := hide (eqB_yes (all_taken HT.out hlt HN.out))
      have hdl : decide ((k : Int) < ((la.length : Nat) : Int)) = false := by simp; omega
      go_wp2_with fail
      go_ret
      exact ⟨ret_bool HEQ.out.symm, HBR.out⟩
    obtain ⟨x, hx⟩ : ∃ x, la[k]? = some x := ⟨_, List.getElem?_eq_getElem hlt⟩
    obtain ⟨y, hy⟩ : ∃ y, lb[k]? = some y := ⟨_, List.getElem?_eq_getElem (by have := HN.out; omega)⟩
    obtain ⟨b, off, rfl, hb, hca⟩ := HA.out.at_ hx
    obtain ⟨b', off', rfl, hb', hcb⟩ := HB.out.at_ hy
    have c0 : wr.cell? ⟨b, off + k * 3, none⟩ = some (Value.string ⟨(x.m).toArray⟩) := lc HBR.out hb (hca 0 _ rfl)
    have d0 : wr.cell? ⟨b', off' + k * 3, none⟩ = some (Value.string ⟨(y.m).toArray⟩) := lc HBR.out hb' (hcb 0 _ rfl)
    have c1 : wr.cell? ⟨b, off + k * 3 + 1, none⟩ = some (Value.string ⟨(x.p).toArray⟩) := lc HBR.out hb (hca 1 _ rfl)
    have d1 : wr.cell? ⟨b', off' + k * 3 + 1, none⟩ = some (Value.string ⟨(y.p).toArray⟩) := lc HBR.out hb' (hcb 1 _ rfl)
    have c2 : wr.cell? ⟨b, off + k * 3 + 2, none⟩ = some (Value.string ⟨(x.o).toArray⟩) := lc HBR.out hb (hca 2 _ rfl)
    have d2 : wr.cell? ⟨b', off' + k * 3 + 2, none⟩ = some (Value.string ⟨(y.o).toArray⟩) := lc HBR.out hb' (hcb 2 _ rfl)
    have hbw := HBR.out.size
    have hb1 : b < wr.heap.size := by omega
    have hb2 : b' < wr.heap.size := by omega
    clear hca hcb
    obtain ⟨p0, p1, p2⟩ := x
    obtain ⟨q0, q1, q2⟩ := y
    dsimp only at c0 d0 c1 d1 c2 d2
    have k0 : (0 : Int) ≤ (k : Int) ∧ (k : Int) < ((la.length : Nat) : Int) := by omega
    have k1 : decide (k < la.length) = true := by simp; exact hlt
    have HX := hide hx
    have HY := hide hy
    clear hx hy
    rcases dS p0 q0 with h | rfl
    rotate_left
    rcases dS p1 q1 with h | rfl
    rotate_left
    rcases dS p2 q2 with h | rfl
    rotate_left
    all_goals
      first
        | have HTK := hide (take_step HT.out HX.out HY.out)
        | have HNE := hide (at_ne HX.out HY.out (by intro e; cases e; simp at h))
      (try generalize (⟨p0.toArray⟩ : ByteArray) = xB0 at *)
      (try generalize (⟨q0.toArray⟩ : ByteArray) = yB0 at *)
      (try generalize (⟨p1.toArray⟩ : ByteArray) = xB1 at *)
      (try generalize (⟨q1.toArray⟩ : ByteArray) = yB1 at *)
      (try generalize (⟨p2.toArray⟩ : ByteArray) = xB2 at *)
      (try generalize (⟨q2.toArray⟩ : ByteArray) = yB2 at *)
      go_wp2_with fail
      go_quiet (fail)
      go_wp2_with fail
      first
        | (go_ret; exact ⟨ret_bool HNE.out.symm, below_drewN HBR.out _⟩)
        | (go_roundw; (case rel => exact ⟨k + 1, by omega, by go_num, HTK.out, below_drewN HBR.out _⟩); (case measure => simp [intOf]; omega))
set_option maxRecDepth 100000 in
set_option maxHeartbeats 4000000 in
theorem same_switches (va vb : Value) (la lb : List SwD) (W : World) (Ha : Hid (DAt W (fun _ => True) va (.row 4 (la.map SwD.cells)))) (Hb : Hid (DAt W (fun _ => True) vb (.row 4 (lb.map SwD.cells)))) (hla : la.length ≤ 1099511627776) (_hlb : lb.length ≤ 1099511627776) :
    Calls Tryz.prog 39 #[va, vb] W fun e w' => e = .returned (.bool (eqB la lb)) ∧ Below W.heap.size W w' := by
  obtain ⟨A, c, rfl, hA⟩ := Ha.out.slice
  obtain ⟨A', c', rfl, hB⟩ := Hb.out.slice
  have HA := hide hA
  have HB := hide hB
  clear hA hB Ha Hb
  rw [List.length_map, List.length_map]
  by_cases hn : la.length = lb.length
  rotate_left
  · have hd : ((la.length : Int) == ((lb.length : Nat) : Int)) = false := by rw [beq_eq_false_iff_ne]; omega
    have hd2 : ((la.length : Int) != ((lb.length : Nat) : Int)) = true := by simp; omega
    have HNE := hide (eqB_no (fun e : la = lb => hn (congrArg List.length e)))
    clear hn
    go_enter Tryz.func39, Tryz.ntmps39
    go_wp2_with fail
    go_ret
    exact ⟨ret_bool HNE.out.symm, Below.refl _ _⟩
  rw [← hn]
  have HN := hide hn
  clear hn
  go_enter Tryz.func39, Tryz.ntmps39
  go_wp2_with fail
  go_loopw [5] (fun v5 wr => ∃ k : Nat, k ≤ la.length ∧ v5 = .int .i64 k ∧ la.take k = lb.take k ∧ Below W.heap.size W wr) (fun v5 _ => la.length - (intOf v5).toNat)
  case atStart => exact ⟨0, by omega, rfl, rfl, Below.refl _ _⟩
  case round =>
    obtain ⟨k, hk, rfl, ht, hbr⟩ := hrel
    have HT := hide ht
    have HBR := hide hbr
    clear ht hbr
    by_cases hlt : k < la.length
    rotate_left
    · have HEQ := hide (eqB_yes (all_taken HT.out hlt HN.out))
      have hdl : decide ((k : Int) < ((la.length : Nat) : Int)) = false := by simp; omega
      go_wp2_with fail
      go_ret
      exact ⟨ret_bool HEQ.out.symm, HBR.out⟩
    obtain ⟨x, hx⟩ : ∃ x, la[k]? = some x := ⟨_, List.getElem?_eq_getElem hlt⟩
    obtain ⟨y, hy⟩ : ∃ y, lb[k]? = some y := ⟨_, List.getElem?_eq_getElem (by have := HN.out; omega)⟩
    obtain ⟨b, off, rfl, hb, hca⟩ := HA.out.at_ hx
    obtain ⟨b', off', rfl, hb', hcb⟩ := HB.out.at_ hy
    have c0 : wr.cell? ⟨b, off + k * 4, none⟩ = some (Value.string ⟨(x.name).toArray⟩) := lc HBR.out hb (hca 0 _ rfl)
    have d0 : wr.cell? ⟨b', off' + k * 4, none⟩ = some (Value.string ⟨(y.name).toArray⟩) := lc HBR.out hb' (hcb 0 _ rfl)
    have c1 : wr.cell? ⟨b, off + k * 4 + 1, none⟩ = some (Value.int .i64 (x.net)) := lc HBR.out hb (hca 1 _ rfl)
    have d1 : wr.cell? ⟨b', off' + k * 4 + 1, none⟩ = some (Value.int .i64 (y.net)) := lc HBR.out hb' (hcb 1 _ rfl)
    have c2 : wr.cell? ⟨b, off + k * 4 + 2, none⟩ = some (Value.int .i64 (x.delay)) := lc HBR.out hb (hca 2 _ rfl)
    have d2 : wr.cell? ⟨b', off' + k * 4 + 2, none⟩ = some (Value.int .i64 (y.delay)) := lc HBR.out hb' (hcb 2 _ rfl)
    have c3 : wr.cell? ⟨b, off + k * 4 + 3, none⟩ = some (Value.int .i64 (x.store)) := lc HBR.out hb (hca 3 _ rfl)
    have d3 : wr.cell? ⟨b', off' + k * 4 + 3, none⟩ = some (Value.int .i64 (y.store)) := lc HBR.out hb' (hcb 3 _ rfl)
    have hbw := HBR.out.size
    have hb1 : b < wr.heap.size := by omega
    have hb2 : b' < wr.heap.size := by omega
    clear hca hcb
    obtain ⟨p0, p1, p2, p3⟩ := x
    obtain ⟨q0, q1, q2, q3⟩ := y
    dsimp only at c0 d0 c1 d1 c2 d2 c3 d3
    have k0 : (0 : Int) ≤ (k : Int) ∧ (k : Int) < ((la.length : Nat) : Int) := by omega
    have k1 : decide (k < la.length) = true := by simp; exact hlt
    have HX := hide hx
    have HY := hide hy
    clear hx hy
    rcases dS p0 q0 with h | rfl
    rotate_left
    rcases dI p1 q1 with ⟨h, g⟩ | rfl
    rotate_left
    rcases dI p2 q2 with ⟨h, g⟩ | rfl
    rotate_left
    rcases dI p3 q3 with ⟨h, g⟩ | rfl
    rotate_left
    all_goals
      first
        | have HTK := hide (take_step HT.out HX.out HY.out)
        | have HNE := hide (at_ne HX.out HY.out (by intro e; cases e; simp at h))
      (try generalize (⟨p0.toArray⟩ : ByteArray) = xB0 at *)
      (try generalize (⟨q0.toArray⟩ : ByteArray) = yB0 at *)
      go_wp2_with fail
      go_quiet (fail)
      go_wp2_with fail
      first
        | (go_ret; exact ⟨ret_bool HNE.out.symm, below_drewN HBR.out _⟩)
        | (go_roundw; (case rel => exact ⟨k + 1, by omega, by go_num, HTK.out, below_drewN HBR.out _⟩); (case measure => simp [intOf]; omega))
set_option maxRecDepth 100000 in
set_option maxHeartbeats 4000000 in
theorem same_links (va vb : Value) (la lb : List LinkD) (W : World) (Ha : Hid (DAt W (fun _ => True) va (.row 4 (la.map LinkD.cells)))) (Hb : Hid (DAt W (fun _ => True) vb (.row 4 (lb.map LinkD.cells)))) (hla : la.length ≤ 1099511627776) (_hlb : lb.length ≤ 1099511627776) :
    Calls Tryz.prog 40 #[va, vb] W fun e w' => e = .returned (.bool (eqB la lb)) ∧ Below W.heap.size W w' := by
  obtain ⟨A, c, rfl, hA⟩ := Ha.out.slice
  obtain ⟨A', c', rfl, hB⟩ := Hb.out.slice
  have HA := hide hA
  have HB := hide hB
  clear hA hB Ha Hb
  rw [List.length_map, List.length_map]
  by_cases hn : la.length = lb.length
  rotate_left
  · have hd : ((la.length : Int) == ((lb.length : Nat) : Int)) = false := by rw [beq_eq_false_iff_ne]; omega
    have hd2 : ((la.length : Int) != ((lb.length : Nat) : Int)) = true := by simp; omega
    have HNE := hide (eqB_no (fun e : la = lb => hn (congrArg List.length e)))
    clear hn
    go_enter Tryz.func40, Tryz.ntmps40
    go_wp2_with fail
    go_ret
    exact ⟨ret_bool HNE.out.symm, Below.refl _ _⟩
  rw [← hn]
  have HN := hide hn
  clear hn
  go_enter Tryz.func40, Tryz.ntmps40
  go_wp2_with fail
  go_loopw [5] (fun v5 wr => ∃ k : Nat, k ≤ la.length ∧ v5 = .int .i64 k ∧ la.take k = lb.take k ∧ Below W.heap.size W wr) (fun v5 _ => la.length - (intOf v5).toNat)
  case atStart => exact ⟨0, by omega, rfl, rfl, Below.refl _ _⟩
  case round =>
    obtain ⟨k, hk, rfl, ht, hbr⟩ := hrel
    have HT := hide ht
    have HBR := hide hbr
    clear ht hbr
    by_cases hlt : k < la.length
    rotate_left
    · have HEQ := hide (eqB_yes (all_taken HT.out hlt HN.out))
      have hdl : decide ((k : Int) < ((la.length : Nat) : Int)) = false := by simp; omega
      go_wp2_with fail
      go_ret
      exact ⟨ret_bool HEQ.out.symm, HBR.out⟩
    obtain ⟨x, hx⟩ : ∃ x, la[k]? = some x := ⟨_, List.getElem?_eq_getElem hlt⟩
    obtain ⟨y, hy⟩ : ∃ y, lb[k]? = some y := ⟨_, List.getElem?_eq_getElem (by have := HN.out; omega)⟩
    obtain ⟨b, off, rfl, hb, hca⟩ := HA.out.at_ hx
    obtain ⟨b', off', rfl, hb', hcb⟩ := HB.out.at_ hy
    have c0 : wr.cell? ⟨b, off + k * 4, none⟩ = some (Value.string ⟨(x.a).toArray⟩) := lc HBR.out hb (hca 0 _ rfl)
    have d0 : wr.cell? ⟨b', off' + k * 4, none⟩ = some (Value.string ⟨(y.a).toArray⟩) := lc HBR.out hb' (hcb 0 _ rfl)
    have c1 : wr.cell? ⟨b, off + k * 4 + 1, none⟩ = some (Value.string ⟨(x.b).toArray⟩) := lc HBR.out hb (hca 1 _ rfl)
    have d1 : wr.cell? ⟨b', off' + k * 4 + 1, none⟩ = some (Value.string ⟨(y.b).toArray⟩) := lc HBR.out hb' (hcb 1 _ rfl)
    have c2 : wr.cell? ⟨b, off + k * 4 + 2, none⟩ = some (Value.int .i64 (x.net)) := lc HBR.out hb (hca 2 _ rfl)
    have d2 : wr.cell? ⟨b', off' + k * 4 + 2, none⟩ = some (Value.int .i64 (y.net)) := lc HBR.out hb' (hcb 2 _ rfl)
    have c3 : wr.cell? ⟨b, off + k * 4 + 3, none⟩ = some (Value.int .i64 (x.slow)) := lc HBR.out hb (hca 3 _ rfl)
    have d3 : wr.cell? ⟨b', off' + k * 4 + 3, none⟩ = some (Value.int .i64 (y.slow)) := lc HBR.out hb' (hcb 3 _ rfl)
    have hbw := HBR.out.size
    have hb1 : b < wr.heap.size := by omega
    have hb2 : b' < wr.heap.size := by omega
    clear hca hcb
    obtain ⟨p0, p1, p2, p3⟩ := x
    obtain ⟨q0, q1, q2, q3⟩ := y
    dsimp only at c0 d0 c1 d1 c2 d2 c3 d3
    have k0 : (0 : Int) ≤ (k : Int) ∧ (k : Int) < ((la.length : Nat) : Int) := by omega
    have k1 : decide (k < la.length) = true := by simp; exact hlt
    have HX := hide hx
    have HY := hide hy
    clear hx hy
    rcases dS p0 q0 with h | rfl
    rotate_left
    rcases dS p1 q1 with h | rfl
    rotate_left
    rcases dI p2 q2 with ⟨h, g⟩ | rfl
    rotate_left
    rcases dI p3 q3 with ⟨h, g⟩ | rfl
    rotate_left
    all_goals
      first
        | have HTK := hide (take_step HT.out HX.out HY.out)
        | have HNE := hide (at_ne HX.out HY.out (by intro e; cases e; simp at h))
      (try generalize (⟨p0.toArray⟩ : ByteArray) = xB0 at *)
      (try generalize (⟨q0.toArray⟩ : ByteArray) = yB0 at *)
      (try generalize (⟨p1.toArray⟩ : ByteArray) = xB1 at *)
      (try generalize (⟨q1.toArray⟩ : ByteArray) = yB1 at *)
      go_wp2_with fail
      go_quiet (fail)
      go_wp2_with fail
      first
        | (go_ret; exact ⟨ret_bool HNE.out.symm, below_drewN HBR.out _⟩)
        | (go_roundw; (case rel => exact ⟨k + 1, by omega, by go_num, HTK.out, below_drewN HBR.out _⟩); (case measure => simp [intOf]; omega))
set_option maxRecDepth 100000 in
set_option maxHeartbeats 4000000 in
theorem same_healths (va vb : Value) (la lb : List HealthD) (W : World) (Ha : Hid (DAt W (fun _ => True) va (.row 5 (la.map HealthD.cells)))) (Hb : Hid (DAt W (fun _ => True) vb (.row 5 (lb.map HealthD.cells)))) (hla : la.length ≤ 1099511627776) (_hlb : lb.length ≤ 1099511627776) :
    Calls Tryz.prog 42 #[va, vb] W fun e w' => e = .returned (.bool (eqB la lb)) ∧ Below W.heap.size W w' := by
  obtain ⟨A, c, rfl, hA⟩ := Ha.out.slice
  obtain ⟨A', c', rfl, hB⟩ := Hb.out.slice
  have HA := hide hA
  have HB := hide hB
  clear hA hB Ha Hb
  rw [List.length_map, List.length_map]
  by_cases hn : la.length = lb.length
  rotate_left
  · have hd : ((la.length : Int) == ((lb.length : Nat) : Int)) = false := by rw [beq_eq_false_iff_ne]; omega
    have hd2 : ((la.length : Int) != ((lb.length : Nat) : Int)) = true := by simp; omega
    have HNE := hide (eqB_no (fun e : la = lb => hn (congrArg List.length e)))
    clear hn
    go_enter Tryz.func42, Tryz.ntmps42
    go_wp2_with fail
    go_ret
    exact ⟨ret_bool HNE.out.symm, Below.refl _ _⟩
  rw [← hn]
  have HN := hide hn
  clear hn
  go_enter Tryz.func42, Tryz.ntmps42
  go_wp2_with fail
  go_loopw [5] (fun v5 wr => ∃ k : Nat, k ≤ la.length ∧ v5 = .int .i64 k ∧ la.take k = lb.take k ∧ Below W.heap.size W wr) (fun v5 _ => la.length - (intOf v5).toNat)
  case atStart => exact ⟨0, by omega, rfl, rfl, Below.refl _ _⟩
  case round =>
    obtain ⟨k, hk, rfl, ht, hbr⟩ := hrel
    have HT := hide ht
    have HBR := hide hbr
    clear ht hbr
    by_cases hlt : k < la.length
    rotate_left
    · have HEQ := hide (eqB_yes (all_taken HT.out hlt HN.out))
      have hdl : decide ((k : Int) < ((la.length : Nat) : Int)) = false := by simp; omega
      go_wp2_with fail
      go_ret
      exact ⟨ret_bool HEQ.out.symm, HBR.out⟩
    obtain ⟨x, hx⟩ : ∃ x, la[k]? = some x := ⟨_, List.getElem?_eq_getElem hlt⟩
    obtain ⟨y, hy⟩ : ∃ y, lb[k]? = some y := ⟨_, List.getElem?_eq_getElem (by have := HN.out; omega)⟩
    obtain ⟨b, off, rfl, hb, hca⟩ := HA.out.at_ hx
    obtain ⟨b', off', rfl, hb', hcb⟩ := HB.out.at_ hy
    have c0 : wr.cell? ⟨b, off + k * 5, none⟩ = some (Value.string ⟨(x.module).toArray⟩) := lc HBR.out hb (hca 0 _ rfl)
    have d0 : wr.cell? ⟨b', off' + k * 5, none⟩ = some (Value.string ⟨(y.module).toArray⟩) := lc HBR.out hb' (hcb 0 _ rfl)
    have c1 : wr.cell? ⟨b, off + k * 5 + 1, none⟩ = some (Value.string ⟨(x.part).toArray⟩) := lc HBR.out hb (hca 1 _ rfl)
    have d1 : wr.cell? ⟨b', off' + k * 5 + 1, none⟩ = some (Value.string ⟨(y.part).toArray⟩) := lc HBR.out hb' (hcb 1 _ rfl)
    have c2 : wr.cell? ⟨b, off + k * 5 + 2, none⟩ = some (Value.int .u8 ((x.fault : Nat) : Int)) := lc HBR.out hb (hca 2 _ rfl)
    have d2 : wr.cell? ⟨b', off' + k * 5 + 2, none⟩ = some (Value.int .u8 ((y.fault : Nat) : Int)) := lc HBR.out hb' (hcb 2 _ rfl)
    have c3 : wr.cell? ⟨b, off + k * 5 + 3, none⟩ = some (Value.int .u8 ((x.level : Nat) : Int)) := lc HBR.out hb (hca 3 _ rfl)
    have d3 : wr.cell? ⟨b', off' + k * 5 + 3, none⟩ = some (Value.int .u8 ((y.level : Nat) : Int)) := lc HBR.out hb' (hcb 3 _ rfl)
    have c4 : wr.cell? ⟨b, off + k * 5 + 4, none⟩ = some (Value.int .u8 ((x.do_ : Nat) : Int)) := lc HBR.out hb (hca 4 _ rfl)
    have d4 : wr.cell? ⟨b', off' + k * 5 + 4, none⟩ = some (Value.int .u8 ((y.do_ : Nat) : Int)) := lc HBR.out hb' (hcb 4 _ rfl)
    have hbw := HBR.out.size
    have hb1 : b < wr.heap.size := by omega
    have hb2 : b' < wr.heap.size := by omega
    clear hca hcb
    obtain ⟨p0, p1, p2, p3, p4⟩ := x
    obtain ⟨q0, q1, q2, q3, q4⟩ := y
    dsimp only at c0 d0 c1 d1 c2 d2 c3 d3 c4 d4
    have k0 : (0 : Int) ≤ (k : Int) ∧ (k : Int) < ((la.length : Nat) : Int) := by omega
    have k1 : decide (k < la.length) = true := by simp; exact hlt
    have HX := hide hx
    have HY := hide hy
    clear hx hy
    rcases dS p0 q0 with h | rfl
    rotate_left
    rcases dS p1 q1 with h | rfl
    rotate_left
    rcases dU p2 q2 with ⟨h, g⟩ | rfl
    rotate_left
    rcases dU p3 q3 with ⟨h, g⟩ | rfl
    rotate_left
    rcases dU p4 q4 with ⟨h, g⟩ | rfl
    rotate_left
    all_goals
      first
        | have HTK := hide (take_step HT.out HX.out HY.out)
        | have HNE := hide (at_ne HX.out HY.out (by intro e; cases e; simp at h))
      (try generalize (⟨p0.toArray⟩ : ByteArray) = xB0 at *)
      (try generalize (⟨q0.toArray⟩ : ByteArray) = yB0 at *)
      (try generalize (⟨p1.toArray⟩ : ByteArray) = xB1 at *)
      (try generalize (⟨q1.toArray⟩ : ByteArray) = yB1 at *)
      (try generalize ((p2 : Nat) : Int) = xZ2 at *)
      (try generalize ((q2 : Nat) : Int) = yZ2 at *)
      (try generalize ((p3 : Nat) : Int) = xZ3 at *)
      (try generalize ((q3 : Nat) : Int) = yZ3 at *)
      (try generalize ((p4 : Nat) : Int) = xZ4 at *)
      (try generalize ((q4 : Nat) : Int) = yZ4 at *)
      go_wp2_with fail
      go_quiet (fail)
      go_wp2_with fail
      first
        | (go_ret; exact ⟨ret_bool HNE.out.symm, below_drewN HBR.out _⟩)
        | (go_roundw; (case rel => exact ⟨k + 1, by omega, by go_num, HTK.out, below_drewN HBR.out _⟩); (case measure => simp [intOf]; omega))
set_option maxRecDepth 100000 in
set_option maxHeartbeats 4000000 in
theorem same_reports (va vb : Value) (la lb : List RepD) (W : World) (Ha : Hid (DAt W (fun _ => True) va (.row 2 (la.map RepD.cells)))) (Hb : Hid (DAt W (fun _ => True) vb (.row 2 (lb.map RepD.cells)))) (hla : la.length ≤ 1099511627776) (_hlb : lb.length ≤ 1099511627776) :
    Calls Tryz.prog 104 #[va, vb] W fun e w' => e = .returned (.bool (eqB la lb)) ∧ Below W.heap.size W w' := by
  obtain ⟨A, c, rfl, hA⟩ := Ha.out.slice
  obtain ⟨A', c', rfl, hB⟩ := Hb.out.slice
  have HA := hide hA
  have HB := hide hB
  clear hA hB Ha Hb
  rw [List.length_map, List.length_map]
  by_cases hn : la.length = lb.length
  rotate_left
  · have hd : ((la.length : Int) == ((lb.length : Nat) : Int)) = false := by rw [beq_eq_false_iff_ne]; omega
    have hd2 : ((la.length : Int) != ((lb.length : Nat) : Int)) = true := by simp; omega
    have HNE := hide (eqB_no (fun e : la = lb => hn (congrArg List.length e)))
    clear hn
    go_enter Tryz.func104, Tryz.ntmps104
    go_wp2_with fail
    go_ret
    exact ⟨ret_bool HNE.out.symm, Below.refl _ _⟩
  rw [← hn]
  have HN := hide hn
  clear hn
  go_enter Tryz.func104, Tryz.ntmps104
  go_wp2_with fail
  go_loopw [5] (fun v5 wr => ∃ k : Nat, k ≤ la.length ∧ v5 = .int .i64 k ∧ la.take k = lb.take k ∧ Below W.heap.size W wr) (fun v5 _ => la.length - (intOf v5).toNat)
  case atStart => exact ⟨0, by omega, rfl, rfl, Below.refl _ _⟩
  case round =>
    obtain ⟨k, hk, rfl, ht, hbr⟩ := hrel
    have HT := hide ht
    have HBR := hide hbr
    clear ht hbr
    by_cases hlt : k < la.length
    rotate_left
    · have HEQ := hide (eqB_yes (all_taken HT.out hlt HN.out))
      have hdl : decide ((k : Int) < ((la.length : Nat) : Int)) = false := by simp; omega
      go_wp2_with fail
      go_ret
      exact ⟨ret_bool HEQ.out.symm, HBR.out⟩
    obtain ⟨x, hx⟩ : ∃ x, la[k]? = some x := ⟨_, List.getElem?_eq_getElem hlt⟩
    obtain ⟨y, hy⟩ : ∃ y, lb[k]? = some y := ⟨_, List.getElem?_eq_getElem (by have := HN.out; omega)⟩
    obtain ⟨b, off, rfl, hb, hca⟩ := HA.out.at_ hx
    obtain ⟨b', off', rfl, hb', hcb⟩ := HB.out.at_ hy
    have c0 : wr.cell? ⟨b, off + k * 2, none⟩ = some (Value.string ⟨(x.unit).toArray⟩) := lc HBR.out hb (hca 0 _ rfl)
    have d0 : wr.cell? ⟨b', off' + k * 2, none⟩ = some (Value.string ⟨(y.unit).toArray⟩) := lc HBR.out hb' (hcb 0 _ rfl)
    have c1 : wr.cell? ⟨b, off + k * 2 + 1, none⟩ = some (Value.int .i64 (x.code)) := lc HBR.out hb (hca 1 _ rfl)
    have d1 : wr.cell? ⟨b', off' + k * 2 + 1, none⟩ = some (Value.int .i64 (y.code)) := lc HBR.out hb' (hcb 1 _ rfl)
    have hbw := HBR.out.size
    have hb1 : b < wr.heap.size := by omega
    have hb2 : b' < wr.heap.size := by omega
    clear hca hcb
    obtain ⟨p0, p1⟩ := x
    obtain ⟨q0, q1⟩ := y
    dsimp only at c0 d0 c1 d1
    have k0 : (0 : Int) ≤ (k : Int) ∧ (k : Int) < ((la.length : Nat) : Int) := by omega
    have k1 : decide (k < la.length) = true := by simp; exact hlt
    have HX := hide hx
    have HY := hide hy
    clear hx hy
    rcases dS p0 q0 with h | rfl
    rotate_left
    rcases dI p1 q1 with ⟨h, g⟩ | rfl
    rotate_left
    all_goals
      first
        | have HTK := hide (take_step HT.out HX.out HY.out)
        | have HNE := hide (at_ne HX.out HY.out (by intro e; cases e; simp at h))
      (try generalize (⟨p0.toArray⟩ : ByteArray) = xB0 at *)
      (try generalize (⟨q0.toArray⟩ : ByteArray) = yB0 at *)
      go_wp2_with fail
      go_quiet (fail)
      go_wp2_with fail
      first
        | (go_ret; exact ⟨ret_bool HNE.out.symm, below_drewN HBR.out _⟩)
        | (go_roundw; (case rel => exact ⟨k + 1, by omega, by go_num, HTK.out, below_drewN HBR.out _⟩); (case measure => simp [intOf]; omega))
set_option maxRecDepth 100000 in
set_option maxHeartbeats 4000000 in
theorem same_versions (va vb : Value) (la lb : List VerD) (W : World) (Ha : Hid (DAt W (fun _ => True) va (.row 4 (la.map VerD.cells)))) (Hb : Hid (DAt W (fun _ => True) vb (.row 4 (lb.map VerD.cells)))) (hla : la.length ≤ 1099511627776) (_hlb : lb.length ≤ 1099511627776) :
    Calls Tryz.prog 44 #[va, vb] W fun e w' => e = .returned (.bool (eqB la lb)) ∧ Below W.heap.size W w' := by
  obtain ⟨A, c, rfl, hA⟩ := Ha.out.slice
  obtain ⟨A', c', rfl, hB⟩ := Hb.out.slice
  have HA := hide hA
  have HB := hide hB
  clear hA hB Ha Hb
  rw [List.length_map, List.length_map]
  by_cases hn : la.length = lb.length
  rotate_left
  · have hd : ((la.length : Int) == ((lb.length : Nat) : Int)) = false := by rw [beq_eq_false_iff_ne]; omega
    have hd2 : ((la.length : Int) != ((lb.length : Nat) : Int)) = true := by simp; omega
    have HNE := hide (eqB_no (fun e : la = lb => hn (congrArg List.length e)))
    clear hn
    go_enter Tryz.func44, Tryz.ntmps44
    go_wp2_with fail
    go_ret
    exact ⟨ret_bool HNE.out.symm, Below.refl _ _⟩
  rw [← hn]
  have HN := hide hn
  clear hn
  go_enter Tryz.func44, Tryz.ntmps44
  go_wp2_with fail
  go_loopw [5] (fun v5 wr => ∃ k : Nat, k ≤ la.length ∧ v5 = .int .i64 k ∧ la.take k = lb.take k ∧ Below W.heap.size W wr) (fun v5 _ => la.length - (intOf v5).toNat)
  case atStart => exact ⟨0, by omega, rfl, rfl, Below.refl _ _⟩
  case round =>
    obtain ⟨k, hk, rfl, ht, hbr⟩ := hrel
    have HT := hide ht
    have HBR := hide hbr
    clear ht hbr
    by_cases hlt : k < la.length
    rotate_left
    · have HEQ := hide (eqB_yes (all_taken HT.out hlt HN.out))
      have hdl : decide ((k : Int) < ((la.length : Nat) : Int)) = false := by simp; omega
      go_wp2_with fail
      go_ret
      exact ⟨ret_bool HEQ.out.symm, HBR.out⟩
    obtain ⟨x, hx⟩ : ∃ x, la[k]? = some x := ⟨_, List.getElem?_eq_getElem hlt⟩
    obtain ⟨y, hy⟩ : ∃ y, lb[k]? = some y := ⟨_, List.getElem?_eq_getElem (by have := HN.out; omega)⟩
    obtain ⟨b, off, rfl, hb, hca⟩ := HA.out.at_ hx
    obtain ⟨b', off', rfl, hb', hcb⟩ := HB.out.at_ hy
    have c0 : wr.cell? ⟨b, off + k * 4, none⟩ = some (Value.string ⟨(x.a).toArray⟩) := lc HBR.out hb (hca 0 _ rfl)
    have d0 : wr.cell? ⟨b', off' + k * 4, none⟩ = some (Value.string ⟨(y.a).toArray⟩) := lc HBR.out hb' (hcb 0 _ rfl)
    have c1 : wr.cell? ⟨b, off + k * 4 + 1, none⟩ = some (Value.int .i64 (x.va)) := lc HBR.out hb (hca 1 _ rfl)
    have d1 : wr.cell? ⟨b', off' + k * 4 + 1, none⟩ = some (Value.int .i64 (y.va)) := lc HBR.out hb' (hcb 1 _ rfl)
    have c2 : wr.cell? ⟨b, off + k * 4 + 2, none⟩ = some (Value.string ⟨(x.b).toArray⟩) := lc HBR.out hb (hca 2 _ rfl)
    have d2 : wr.cell? ⟨b', off' + k * 4 + 2, none⟩ = some (Value.string ⟨(y.b).toArray⟩) := lc HBR.out hb' (hcb 2 _ rfl)
    have c3 : wr.cell? ⟨b, off + k * 4 + 3, none⟩ = some (Value.int .i64 (x.vb)) := lc HBR.out hb (hca 3 _ rfl)
    have d3 : wr.cell? ⟨b', off' + k * 4 + 3, none⟩ = some (Value.int .i64 (y.vb)) := lc HBR.out hb' (hcb 3 _ rfl)
    have hbw := HBR.out.size
    have hb1 : b < wr.heap.size := by omega
    have hb2 : b' < wr.heap.size := by omega
    clear hca hcb
    obtain ⟨p0, p1, p2, p3⟩ := x
    obtain ⟨q0, q1, q2, q3⟩ := y
    dsimp only at c0 d0 c1 d1 c2 d2 c3 d3
    have k0 : (0 : Int) ≤ (k : Int) ∧ (k : Int) < ((la.length : Nat) : Int) := by omega
    have k1 : decide (k < la.length) = true := by simp; exact hlt
    have HX := hide hx
    have HY := hide hy
    clear hx hy
    rcases dS p0 q0 with h | rfl
    rotate_left
    rcases dI p1 q1 with ⟨h, g⟩ | rfl
    rotate_left
    rcases dS p2 q2 with h | rfl
    rotate_left
    rcases dI p3 q3 with ⟨h, g⟩ | rfl
    rotate_left
    all_goals
      first
        | have HTK := hide (take_step HT.out HX.out HY.out)
        | have HNE := hide (at_ne HX.out HY.out (by intro e; cases e; simp at h))
      (try generalize (⟨p0.toArray⟩ : ByteArray) = xB0 at *)
      (try generalize (⟨q0.toArray⟩ : ByteArray) = yB0 at *)
      (try generalize (⟨p2.toArray⟩ : ByteArray) = xB2 at *)
      (try generalize (⟨q2.toArray⟩ : ByteArray) = yB2 at *)
      go_wp2_with fail
      go_quiet (fail)
      go_wp2_with fail
      first
        | (go_ret; exact ⟨ret_bool HNE.out.symm, below_drewN HBR.out _⟩)
        | (go_roundw; (case rel => exact ⟨k + 1, by omega, by go_num, HTK.out, below_drewN HBR.out _⟩); (case measure => simp [intOf]; omega))
end Go.Proofs.YtlngbjphagnloaaGreatDoor
